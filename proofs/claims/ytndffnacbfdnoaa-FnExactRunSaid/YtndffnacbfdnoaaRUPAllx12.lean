-- Lines of PAllx12 that this claim uses.
import Derived.Test.YtndffnacbfdnoaaRUSqd
import Derived.Test.YtndffnacbfdnoaaRUSq
import Derived.Test.YtndffnacbfdnoaaRUPAllx0
import Derived.Test.YtndffnacbfdnoaaRUPAllx5
import Derived.Test.YtndffnacbfdnoaaRUPAllx7
namespace Go.Proofs.Ytndffnacbfdnoaa.PAll
open Go.RowKit Go.Proofs.YtndffnacbfdnoaaW.PrintWords Go.Proofs.YtndffnacbfdnoaaW.PrintLast Go.Proofs.YtndffnacbfdnoaaW.PrintMore
attribute [local go_sem] max2_int min2_int max_two min_two max_three min_three max_four min_four
set_option linter.unusedVariables false
set_option linter.unusedSimpArgs false
def spec_TrainOk.f (a0 : Int) (a1_0 : Int) (a1_1 : Int) (a1_2 : Int) : Option (Bool) := (spec_l1in.f a0 0 1000000000).bind fun t317 => (if t317 = true then ((spec_l1in.f a1_0 0 1000000000).bind fun t318 => (if t318 = true then ((spec_l1in.f a1_2 0 a0).bind fun t319 => (some t319)) else (some false))) else (some false))
set_option maxHeartbeats 8000000 in
set_option maxRecDepth 100000 in
theorem spec_TrainOk.calls (a0 : Int) (a1_0 : Int) (a1_1 : Int) (a1_2 : Int) (r : Bool) (w : World) (h : spec_TrainOk.f a0 a1_0 a1_1 a1_2 = some r) :
  Calls Try.prog 65 #[.int .i64 a0, .agg #[.int .i64 a1_0, .int .i64 a1_1, .int .i64 a1_2]] w fun e w' => e = .returned (.bool r) ∧ Below w.heap.size w w' := by
 have hu48 := Try.underlying48
 have HB := Aside0.mk (Below.refl w.heap.size w)
 have H : ((spec_l1in.f a0 0 1000000000).bind fun t317 => (if t317 = true then ((spec_l1in.f a1_0 0 1000000000).bind fun t318 => (if t318 = true then ((spec_l1in.f a1_2 0 a0).bind fun t319 => (some t319)) else (some false))) else (some false))) = some r := h
 clear h
 replace H := Option.bind_eq_some_iff.mp H
 obtain ⟨t317, A30, H⟩ := H
 replace H : (if t317 = true then ((spec_l1in.f a1_0 0 1000000000).bind fun t318 => (if t318 = true then ((spec_l1in.f a1_2 0 a0).bind fun t319 => (some t319)) else (some false))) else (some false)) = some r := H
 have A3 := Aside0.mk A30
 clear A30
 by_cases c4 : t317 = true
 ·subst c4
  have H1 : ((spec_l1in.f a1_0 0 1000000000).bind fun t318 => (if t318 = true then ((spec_l1in.f a1_2 0 a0).bind fun t319 => (some t319)) else (some false))) = some r := by rw [if_pos rfl] at H; exact H
  clear H; have H := H1; clear H1
  replace H := Option.bind_eq_some_iff.mp H
  obtain ⟨t318, A50, H⟩ := H
  replace H : (if t318 = true then ((spec_l1in.f a1_2 0 a0).bind fun t319 => (some t319)) else (some false)) = some r := H
  have A5 := Aside0.mk A50
  clear A50
  by_cases c6 : t318 = true
  ·subst c6
   have H1 : ((spec_l1in.f a1_2 0 a0).bind fun t319 => (some t319)) = some r := by rw [if_pos rfl] at H; exact H
   clear H; have H := H1; clear H1
   replace H := Option.bind_eq_some_iff.mp H
   obtain ⟨t319, A70, H⟩ := H
   replace H : (some t319) = some r := H
   have A7 := Aside0.mk A70
   clear A70
   obtain rfl := Option.some.inj H
   go_enter Try.func65, Try.ntmps65
   go_wp2_with (first | ((with_reducible refine gate_dst (N := 3) rfl ?_); refine boxA #[.int .i64 a1_0, .int .i64 a1_1, .int .i64 a1_2] 48 ?_; intro gb316 hg w8 hbox hb; have BK316 := Aside0.mk (hbox); have GW316 := nge HB hg; have GE316 := nge HB hg; replace HB := bst HB hb; clear hb hbox hg) | ((with_reducible refine gate_callee (f := 77) rfl ?_); refine goesLA (some 6) rfl Try.func77 #[.int .i64 a0, .int .i64 0, .int .i64 1000000000] ?_; (with_reducible refine (spec_l1in.calls a0 0 1000000000 true _ A3.out).mono ?_); rintro e w' ⟨rfl, ⟨nd, rfl⟩⟩; refine ⟨_, rfl, ?_⟩; have hcz9_0 := b0 BK316; have hcz9_1 := b1 BK316; have hcz9_2 := b2 BK316; have hfz9_0 := blk_frozen BK316.out 0; have hfz9_1 := blk_frozen BK316.out 1; have hfz9_2 := blk_frozen BK316.out 2) | (go_at_call 77; (with_reducible refine (spec_l1in.calls a1_0 0 1000000000 true _ A5.out).mono ?_); rintro e w' ⟨rfl, ⟨nd, rfl⟩⟩) | (go_at_call 77; (with_reducible refine (spec_l1in.calls a1_2 0 a0 t319 _ A7.out).mono ?_); rintro e w' ⟨rfl, ⟨nd, rfl⟩⟩))
   go_ret
   exact ⟨by first | rfl | (simp [*, errW_none, errW_some] <;> rfl), (qs HB)⟩
  replace c6 := Bool.eq_false_iff.mpr c6
  subst c6
  have H1 : (some false) = some r := by rw [if_neg (show ¬ (false = true) by decide)] at H; exact H
  clear H; have H := H1; clear H1
  obtain rfl := Option.some.inj H
  go_enter Try.func65, Try.ntmps65
  go_wp2_with (first | ((with_reducible refine gate_dst (N := 3) rfl ?_); refine boxA #[.int .i64 a1_0, .int .i64 a1_1, .int .i64 a1_2] 48 ?_; intro gb316 hg w10 hbox hb; have BK316 := Aside0.mk (hbox); have GW316 := nge HB hg; have GE316 := nge HB hg; replace HB := bst HB hb; clear hb hbox hg) | ((with_reducible refine gate_callee (f := 77) rfl ?_); refine goesLA (some 6) rfl Try.func77 #[.int .i64 a0, .int .i64 0, .int .i64 1000000000] ?_; (with_reducible refine (spec_l1in.calls a0 0 1000000000 true _ A3.out).mono ?_); rintro e w' ⟨rfl, ⟨nd, rfl⟩⟩; refine ⟨_, rfl, ?_⟩; have hcz11_0 := b0 BK316; have hcz11_1 := b1 BK316; have hcz11_2 := b2 BK316; have hfz11_0 := blk_frozen BK316.out 0; have hfz11_1 := blk_frozen BK316.out 1; have hfz11_2 := blk_frozen BK316.out 2) | (go_at_call 77; (with_reducible refine (spec_l1in.calls a1_0 0 1000000000 false _ A5.out).mono ?_); rintro e w' ⟨rfl, ⟨nd, rfl⟩⟩))
  go_ret
  exact ⟨by first | rfl | (simp [*, errW_none, errW_some] <;> rfl), (qs HB)⟩
 replace c4 := Bool.eq_false_iff.mpr c4
 subst c4
 have H1 : (some false) = some r := by rw [if_neg (show ¬ (false = true) by decide)] at H; exact H
 clear H; have H := H1; clear H1
 obtain rfl := Option.some.inj H
 go_enter Try.func65, Try.ntmps65
 go_wp2_with (first | ((with_reducible refine gate_dst (N := 3) rfl ?_); refine boxA #[.int .i64 a1_0, .int .i64 a1_1, .int .i64 a1_2] 48 ?_; intro gb316 hg w12 hbox hb; have BK316 := Aside0.mk (hbox); have GW316 := nge HB hg; have GE316 := nge HB hg; replace HB := bst HB hb; clear hb hbox hg) | ((with_reducible refine gate_callee (f := 77) rfl ?_); refine goesLA (some 6) rfl Try.func77 #[.int .i64 a0, .int .i64 0, .int .i64 1000000000] ?_; (with_reducible refine (spec_l1in.calls a0 0 1000000000 false _ A3.out).mono ?_); rintro e w' ⟨rfl, ⟨nd, rfl⟩⟩; refine ⟨_, rfl, ?_⟩))
 go_ret
 exact ⟨by first | rfl | (simp [*, errW_none, errW_some] <;> rfl), (qs HB)⟩
mutual
def spec_TrainTick.j0 : Nat → Int → List (S60) → Bool → Int → Int → Int → Int → Int → Int → Option (Bool × Int × Int × Int × (List (S60)) × Int)
 | 0, _, _, _, _, _, _, _, _, _ => none
 | k + 1, x1, x3, x27, x321000, x321001, x321002, x322000, x322001, x322002 => if x27 = true then (some (false, 0, 0, 0, ([] : List (S60)), 0)) else (spec_TrainTick.l0 k x1 x3 (x3.length : Int) 0 x321000 x321001 x321002 true x322000 x322001 x322002 ([] : List (S60)) 0)
def spec_TrainTick.l0 : Nat → Int → List (S60) → Int → Int → Int → Int → Int → Bool → Int → Int → Int → List (S60) → Int → Option (Bool × Int × Int × Int × (List (S60)) × Int)
 | 0, _, _, _, _, _, _, _, _, _, _, _, _, _ => none
 | k + 1, x1, x32, x33, x34, x321000, x321001, x321002, x327000, x327001, x327002, x327003, x327004, x327005 => if x34 < x33 then (if 0 ≤ x34 then (if x34 < (x32.length : Int) then (if ((rd_T60 x32 x34).f0) = 1 then (if (wrap64 (x1 - ((rd_T60 x32 x34).f3))) > x321002 then (spec_TrainTick.l0 k x1 x32 x33 (wrap64 (x34 + 1)) x321000 x321001 x321002 x327000 x327001 x327002 x327003 x327004 x327005) else (if ((rd_T60 x32 x34).f3) ≤ x327003 then (spec_TrainTick.l0 k x1 x32 x33 (wrap64 (x34 + 1)) x321000 x321001 x321002 x327000 x327001 x327002 x327003 x327004 x327005) else (if ((rd_T60 x32 x34).f1) < x327001 then (spec_TrainTick.l0 k x1 x32 x33 (wrap64 (x34 + 1)) x321000 x321001 x321002 x327000 x327001 x327002 x327003 x327004 x327005) else (if x327004.length < 4398046511104 then (spec_TrainTick.l0 k x1 x32 x33 (wrap64 (x34 + 1)) x321000 x321001 x321002 x327000 ((rd_T60 x32 x34).f1) ((rd_T60 x32 x34).f2) ((rd_T60 x32 x34).f3) (x327004 ++ [(⟨2, (rd_T60 x32 x34).f1, 0, (rd_T60 x32 x34).f3⟩ : S60)]) (wrap64 (x327005 + 1))) else (none))))) else (spec_TrainTick.l0 k x1 x32 x33 (wrap64 (x34 + 1)) x321000 x321001 x321002 x327000 x327001 x327002 x327003 x327004 x327005)) else (none)) else (none)) else (some (x327000, x327001, x327002, x327003, x327004, x327005))
end
def spec_TrainTick.f (k : Nat) (a0_0 : Int) (a0_1 : Int) (a0_2 : Int) (a1 : Int) (a2_0 : Int) (a2_1 : Int) (a2_2 : Int) (l3 : List (S60)) : Option (Bool × Int × Int × Int × (List (S60)) × Int) := (spec_RulesOk.f a0_0 a0_1 a0_2).bind fun t323 => (if t323 = true then ((spec_TrainOk.f a1 a2_0 a2_1 a2_2).bind fun t324 => (if t324 = true then ((spec_l2packets.f k a1 l3).bind fun t325 => (spec_TrainTick.j0 k a1 l3 (!t325) a0_0 a0_1 a0_2 a2_0 a2_1 a2_2)) else (spec_TrainTick.j0 k a1 l3 true a0_0 a0_1 a0_2 a2_0 a2_1 a2_2))) else (spec_TrainTick.j0 k a1 l3 true a0_0 a0_1 a0_2 a2_0 a2_1 a2_2))
set_option maxHeartbeats 8000000 in
set_option maxRecDepth 100000 in
theorem spec_TrainTick.calls (k : Nat) (a0_0 : Int) (a0_1 : Int) (a0_2 : Int) (a1 : Int) (a2_0 : Int) (a2_1 : Int) (a2_2 : Int) (A3 : Option Addr) (c3 : Nat) (l3 : List (S60)) (r1 : Bool) (r2 : Int) (r3 : Int) (r4 : Int) (r5 : List (S60)) (r6 : Int) (w : World) (hr3 : Kd.C k60 w A3 l3.length l3) (hc3 : l3.length ≤ c3) (h : spec_TrainTick.f k a0_0 a0_1 a0_2 a1 a2_0 a2_1 a2_2 l3 = some (r1, r2, r3, r4, r5, r6)) :
  Calls Try.prog 25 #[.agg #[.int .i64 a0_0, .int .i64 a0_1, .int .i64 a0_2], .int .i64 a1, .agg #[.int .i64 a2_0, .int .i64 a2_1, .int .i64 a2_2], .slice A3 l3.length c3] w fun e w' => ∃ v4_ : Value, e = .returned (.agg #[.bool r1, .int .i64 r2, .int .i64 r3, .int .i64 r4, v4_, .int .i64 r6]) ∧ Kd.R k60 60 w' w.heap.size (fun _ => True) v4_ r5 ∧ Below w.heap.size w w' := by
 have hu34 := Try.underlying34
 have hu48 := Try.underlying48
 have hu50 := Try.underlying50
 have hu60 := Try.underlying60
 have HR3 := Aside0.mk hr3
 have HC3 := Aside0.mk hc3
 clear hr3 hc3
 have HB := Aside0.mk (Below.refl w.heap.size w)
 have H : ((spec_RulesOk.f a0_0 a0_1 a0_2).bind fun t323 => (if t323 = true then ((spec_TrainOk.f a1 a2_0 a2_1 a2_2).bind fun t324 => (if t324 = true then ((spec_l2packets.f k a1 l3).bind fun t325 => (spec_TrainTick.j0 k a1 l3 (!t325) a0_0 a0_1 a0_2 a2_0 a2_1 a2_2)) else (spec_TrainTick.j0 k a1 l3 true a0_0 a0_1 a0_2 a2_0 a2_1 a2_2))) else (spec_TrainTick.j0 k a1 l3 true a0_0 a0_1 a0_2 a2_0 a2_1 a2_2))) = some (r1, r2, r3, r4, r5, r6) := h
 clear h
 have HC5 := Aside0.mk H
 clear H
 go_enter Try.func25, Try.ntmps25
 go_upto_region 1 with (first | ((with_reducible refine gate_dst (N := 4) rfl ?_); refine boxA #[.int .i64 a0_0, .int .i64 a0_1, .int .i64 a0_2] 34 ?_; intro gb320 hg w6 hbox hb; have BK320 := Aside0.mk (hbox); have GW320 := nge HB hg; have GE320 := nge HB hg; replace HB := bst HB hb; clear hb hbox hg) | ((with_reducible refine gate_dst (N := 6) rfl ?_); refine boxA #[.int .i64 a2_0, .int .i64 a2_1, .int .i64 a2_2] 48 ?_; intro gb321 hg w7 hbox hb; have BK321 := Aside0.mk (hbox); have GW321 := nge HB hg; have GE321 := nge HB hg; replace HB := bst HB hb; have NB320_321 := nlt BK320 hg; have NB321_320 := ngt BK320 hg; replace BK320 := bkb BK320 hb; clear hb hbox hg) | ((with_reducible refine gate_dst (N := 8) rfl ?_); refine boxA #[.bool false, .int .i64 0, .int .i64 0, .int .i64 0, .slice none 0 0, .int .i64 0] 50 ?_; intro gb322 hg w8 hbox hb; have BK322 := Aside0.mk (hbox); have GW322 := nge HB hg; have GE322 := nge HB hg; replace HB := bst HB hb; have NB320_322 := nlt BK320 hg; have NB322_320 := ngt BK320 hg; replace BK320 := bkb BK320 hb; have NB321_322 := nlt BK321 hg; have NB322_321 := ngt BK321 hg; replace BK321 := bkb BK321 hb; clear hb hbox hg))
 repeat (go_quiet (fail); go_upto_region 1 with (first | ((with_reducible refine gate_dst (N := 4) rfl ?_); refine boxA #[.int .i64 a0_0, .int .i64 a0_1, .int .i64 a0_2] 34 ?_; intro gb320 hg w6 hbox hb; have BK320 := Aside0.mk (hbox); have GW320 := nge HB hg; have GE320 := nge HB hg; replace HB := bst HB hb; clear hb hbox hg) | ((with_reducible refine gate_dst (N := 6) rfl ?_); refine boxA #[.int .i64 a2_0, .int .i64 a2_1, .int .i64 a2_2] 48 ?_; intro gb321 hg w7 hbox hb; have BK321 := Aside0.mk (hbox); have GW321 := nge HB hg; have GE321 := nge HB hg; replace HB := bst HB hb; have NB320_321 := nlt BK320 hg; have NB321_320 := ngt BK320 hg; replace BK320 := bkb BK320 hb; clear hb hbox hg) | ((with_reducible refine gate_dst (N := 8) rfl ?_); refine boxA #[.bool false, .int .i64 0, .int .i64 0, .int .i64 0, .slice none 0 0, .int .i64 0] 50 ?_; intro gb322 hg w8 hbox hb; have BK322 := Aside0.mk (hbox); have GW322 := nge HB hg; have GE322 := nge HB hg; replace HB := bst HB hb; have NB320_322 := nlt BK320 hg; have NB322_320 := ngt BK320 hg; replace BK320 := bkb BK320 hb; have NB321_322 := nlt BK321 hg; have NB322_321 := ngt BK321 hg; replace BK321 := bkb BK321 hb; clear hb hbox hg)))
 (try simp only [Act.put, List.setIfInBounds_toArray, List.set_cons_zero, List.set_cons_succ])
 go_cut [27] (fun v27 wc => ∃ (kq : Nat) (x27_4 : Bool), v27 = .bool x27_4 ∧ Aside0 (spec_TrainTick.j0 kq a1 l3 x27_4 a0_0 a0_1 a0_2 a2_0 a2_1 a2_2 = some (r1, r2, r3, r4, r5, r6)) ∧ Aside0 (kq ≤ k) ∧ Aside0 (wc.heap[gb320]? = some (.cells #[.int .i64 a0_0, .int .i64 a0_1, .int .i64 a0_2] 34 (0, 0))) ∧ Aside0 (wc.heap[gb321]? = some (.cells #[.int .i64 a2_0, .int .i64 a2_1, .int .i64 a2_2] 48 (0, 0))) ∧ Aside0 (wc.heap[gb322]? = some (.cells #[.bool false, .int .i64 0, .int .i64 0, .int .i64 0, (.slice none 0 0), .int .i64 0] 50 (0, 0))) ∧ Aside0 (Below w.heap.size w wc))
 case first =>
  have H := HC5.out
  clear HC5
  replace H := Option.bind_eq_some_iff.mp H
  obtain ⟨t323, A90, H⟩ := H
  replace H : (if t323 = true then ((spec_TrainOk.f a1 a2_0 a2_1 a2_2).bind fun t324 => (if t324 = true then ((spec_l2packets.f k a1 l3).bind fun t325 => (spec_TrainTick.j0 k a1 l3 (!t325) a0_0 a0_1 a0_2 a2_0 a2_1 a2_2)) else (spec_TrainTick.j0 k a1 l3 true a0_0 a0_1 a0_2 a2_0 a2_1 a2_2))) else (spec_TrainTick.j0 k a1 l3 true a0_0 a0_1 a0_2 a2_0 a2_1 a2_2)) = some (r1, r2, r3, r4, r5, r6) := H
  have A9 := Aside0.mk A90
  clear A90
  by_cases c10 : t323 = true
  ·subst c10
   have H1 : ((spec_TrainOk.f a1 a2_0 a2_1 a2_2).bind fun t324 => (if t324 = true then ((spec_l2packets.f k a1 l3).bind fun t325 => (spec_TrainTick.j0 k a1 l3 (!t325) a0_0 a0_1 a0_2 a2_0 a2_1 a2_2)) else (spec_TrainTick.j0 k a1 l3 true a0_0 a0_1 a0_2 a2_0 a2_1 a2_2))) = some (r1, r2, r3, r4, r5, r6) := by rw [if_pos rfl] at H; exact H
   clear H; have H := H1; clear H1
   replace H := Option.bind_eq_some_iff.mp H
   obtain ⟨t324, A110, H⟩ := H
   replace H : (if t324 = true then ((spec_l2packets.f k a1 l3).bind fun t325 => (spec_TrainTick.j0 k a1 l3 (!t325) a0_0 a0_1 a0_2 a2_0 a2_1 a2_2)) else (spec_TrainTick.j0 k a1 l3 true a0_0 a0_1 a0_2 a2_0 a2_1 a2_2)) = some (r1, r2, r3, r4, r5, r6) := H
   have A11 := Aside0.mk A110
   clear A110
   by_cases c12 : t324 = true
   ·subst c12
    have H1 : ((spec_l2packets.f k a1 l3).bind fun t325 => (spec_TrainTick.j0 k a1 l3 (!t325) a0_0 a0_1 a0_2 a2_0 a2_1 a2_2)) = some (r1, r2, r3, r4, r5, r6) := by rw [if_pos rfl] at H; exact H
    clear H; have H := H1; clear H1
    replace H := Option.bind_eq_some_iff.mp H
    obtain ⟨t325, A130, H⟩ := H
    replace H : (spec_TrainTick.j0 k a1 l3 (!t325) a0_0 a0_1 a0_2 a2_0 a2_1 a2_2) = some (r1, r2, r3, r4, r5, r6) := H
    have A13 := Aside0.mk A130
    clear A130
    have H' := Aside0.mk H
    clear H
    have hnb14 := NB320_321.out
    have hnc14 := NB321_320.out
    have hnb15 := NB320_322.out
    have hnc15 := NB322_320.out
    have hcz16_0 := b0 BK320
    have hcz16_1 := b1 BK320
    have hcz16_2 := b2 BK320
    have hfz16_0 := blk_frozen BK320.out 0
    have hfz16_1 := blk_frozen BK320.out 1
    have hfz16_2 := blk_frozen BK320.out 2
    go_wp2_with (first | (go_at_call 54; (with_reducible refine (spec_RulesOk.calls a0_0 a0_1 a0_2 true _ A9.out).mono ?_); rintro e w17 ⟨rfl, hb⟩; replace BK320 := bkb BK320 hb; replace BK321 := bkb BK321 hb; replace BK322 := bkb BK322 hb; replace HB := bst HB hb; clear hb; have hnb18 := NB321_322.out; have hnc18 := NB322_321.out; have hcz19_0 := b0 BK321; have hcz19_1 := b1 BK321; have hcz19_2 := b2 BK321; have hfz19_0 := blk_frozen BK321.out 0; have hfz19_1 := blk_frozen BK321.out 1; have hfz19_2 := blk_frozen BK321.out 2) | (go_at_call 65; (with_reducible refine (spec_TrainOk.calls a1 a2_0 a2_1 a2_2 true _ A11.out).mono ?_); rintro e w20 ⟨rfl, hb⟩; replace BK320 := bkb BK320 hb; replace BK321 := bkb BK321 hb; replace BK322 := bkb BK322 hb; replace HB := bst HB hb; clear hb) | (go_at_call 56; (with_reducible refine (spec_l2packets.calls k a1 _ _ l3 t325 _ ?side1 ?side2 A13.out).mono ?_); (case side1 => exact qc (Kd.C_below HR3.out HB.out)); (case side2 => exact HC3.out); rintro e w21 ⟨rfl, hb⟩; replace BK320 := bkb BK320 hb; replace BK321 := bkb BK321 hb; replace BK322 := bkb BK322 hb; replace HB := bst HB hb; clear hb))
    repeat (go_quiet (fail); try go_wp2_with (first | (go_at_call 54; (with_reducible refine (spec_RulesOk.calls a0_0 a0_1 a0_2 true _ A9.out).mono ?_); rintro e w17 ⟨rfl, hb⟩; replace BK320 := bkb BK320 hb; replace BK321 := bkb BK321 hb; replace BK322 := bkb BK322 hb; replace HB := bst HB hb; clear hb; have hnb18 := NB321_322.out; have hnc18 := NB322_321.out; have hcz19_0 := b0 BK321; have hcz19_1 := b1 BK321; have hcz19_2 := b2 BK321; have hfz19_0 := blk_frozen BK321.out 0; have hfz19_1 := blk_frozen BK321.out 1; have hfz19_2 := blk_frozen BK321.out 2) | (go_at_call 65; (with_reducible refine (spec_TrainOk.calls a1 a2_0 a2_1 a2_2 true _ A11.out).mono ?_); rintro e w20 ⟨rfl, hb⟩; replace BK320 := bkb BK320 hb; replace BK321 := bkb BK321 hb; replace BK322 := bkb BK322 hb; replace HB := bst HB hb; clear hb) | (go_at_call 56; (with_reducible refine (spec_l2packets.calls k a1 _ _ l3 t325 _ ?side1 ?side2 A13.out).mono ?_); (case side1 => exact qc (Kd.C_below HR3.out HB.out)); (case side2 => exact HC3.out); rintro e w21 ⟨rfl, hb⟩; replace BK320 := bkb BK320 hb; replace BK321 := bkb BK321 hb; replace BK322 := bkb BK322 hb; replace HB := bst HB hb; clear hb)))
    go_meet
    case rel => exact ⟨_, (!t325), (by first | rfl | (simp; done) | (simp [*]; done)), H', ⟨by first | omega | exact Nat.le_refl _⟩, ⟨qb BK320⟩, ⟨qb BK321⟩, ⟨qb BK322⟩, ⟨(qs HB)⟩⟩
   replace c12 := Bool.eq_false_iff.mpr c12
   subst c12
   have H1 : (spec_TrainTick.j0 k a1 l3 true a0_0 a0_1 a0_2 a2_0 a2_1 a2_2) = some (r1, r2, r3, r4, r5, r6) := by rw [if_neg (show ¬ (false = true) by decide)] at H; exact H
   clear H; have H := H1; clear H1
   have H' := Aside0.mk H
   clear H
   have hnb22 := NB320_321.out
   have hnc22 := NB321_320.out
   have hnb23 := NB320_322.out
   have hnc23 := NB322_320.out
   have hcz24_0 := b0 BK320
   have hcz24_1 := b1 BK320
   have hcz24_2 := b2 BK320
   have hfz24_0 := blk_frozen BK320.out 0
   have hfz24_1 := blk_frozen BK320.out 1
   have hfz24_2 := blk_frozen BK320.out 2
   go_wp2_with (first | (go_at_call 54; (with_reducible refine (spec_RulesOk.calls a0_0 a0_1 a0_2 true _ A9.out).mono ?_); rintro e w25 ⟨rfl, hb⟩; replace BK320 := bkb BK320 hb; replace BK321 := bkb BK321 hb; replace BK322 := bkb BK322 hb; replace HB := bst HB hb; clear hb; have hnb26 := NB321_322.out; have hnc26 := NB322_321.out; have hcz27_0 := b0 BK321; have hcz27_1 := b1 BK321; have hcz27_2 := b2 BK321; have hfz27_0 := blk_frozen BK321.out 0; have hfz27_1 := blk_frozen BK321.out 1; have hfz27_2 := blk_frozen BK321.out 2) | (go_at_call 65; (with_reducible refine (spec_TrainOk.calls a1 a2_0 a2_1 a2_2 false _ A11.out).mono ?_); rintro e w28 ⟨rfl, hb⟩; replace BK320 := bkb BK320 hb; replace BK321 := bkb BK321 hb; replace BK322 := bkb BK322 hb; replace HB := bst HB hb; clear hb))
   repeat (go_quiet (fail); try go_wp2_with (first | (go_at_call 54; (with_reducible refine (spec_RulesOk.calls a0_0 a0_1 a0_2 true _ A9.out).mono ?_); rintro e w25 ⟨rfl, hb⟩; replace BK320 := bkb BK320 hb; replace BK321 := bkb BK321 hb; replace BK322 := bkb BK322 hb; replace HB := bst HB hb; clear hb; have hnb26 := NB321_322.out; have hnc26 := NB322_321.out; have hcz27_0 := b0 BK321; have hcz27_1 := b1 BK321; have hcz27_2 := b2 BK321; have hfz27_0 := blk_frozen BK321.out 0; have hfz27_1 := blk_frozen BK321.out 1; have hfz27_2 := blk_frozen BK321.out 2) | (go_at_call 65; (with_reducible refine (spec_TrainOk.calls a1 a2_0 a2_1 a2_2 false _ A11.out).mono ?_); rintro e w28 ⟨rfl, hb⟩; replace BK320 := bkb BK320 hb; replace BK321 := bkb BK321 hb; replace BK322 := bkb BK322 hb; replace HB := bst HB hb; clear hb)))
   go_meet
   case rel => exact ⟨_, (true), (by first | rfl | (simp; done) | (simp [*]; done)), H', ⟨by first | omega | exact Nat.le_refl _⟩, ⟨qb BK320⟩, ⟨qb BK321⟩, ⟨qb BK322⟩, ⟨(qs HB)⟩⟩
  replace c10 := Bool.eq_false_iff.mpr c10
  subst c10
  have H1 : (spec_TrainTick.j0 k a1 l3 true a0_0 a0_1 a0_2 a2_0 a2_1 a2_2) = some (r1, r2, r3, r4, r5, r6) := by rw [if_neg (show ¬ (false = true) by decide)] at H; exact H
  clear H; have H := H1; clear H1
  have H' := Aside0.mk H
  clear H
  have hnb29 := NB320_321.out
  have hnc29 := NB321_320.out
  have hnb30 := NB320_322.out
  have hnc30 := NB322_320.out
  have hcz31_0 := b0 BK320
  have hcz31_1 := b1 BK320
  have hcz31_2 := b2 BK320
  have hfz31_0 := blk_frozen BK320.out 0
  have hfz31_1 := blk_frozen BK320.out 1
  have hfz31_2 := blk_frozen BK320.out 2
  go_wp2_with (first | (go_at_call 54; (with_reducible refine (spec_RulesOk.calls a0_0 a0_1 a0_2 false _ A9.out).mono ?_); rintro e w32 ⟨rfl, hb⟩; replace BK320 := bkb BK320 hb; replace BK321 := bkb BK321 hb; replace BK322 := bkb BK322 hb; replace HB := bst HB hb; clear hb))
  repeat (go_quiet (fail); try go_wp2_with (first | (go_at_call 54; (with_reducible refine (spec_RulesOk.calls a0_0 a0_1 a0_2 false _ A9.out).mono ?_); rintro e w32 ⟨rfl, hb⟩; replace BK320 := bkb BK320 hb; replace BK321 := bkb BK321 hb; replace BK322 := bkb BK322 hb; replace HB := bst HB hb; clear hb)))
  go_meet
  case rel => exact ⟨_, (true), (by first | rfl | (simp; done) | (simp [*]; done)), H', ⟨by first | omega | exact Nat.le_refl _⟩, ⟨qb BK320⟩, ⟨qb BK321⟩, ⟨qb BK322⟩, ⟨(qs HB)⟩⟩
 case rest =>
  clear HC5
  try clear c1; try clear c2; try clear p2; try clear c3; try clear c10; try clear c12; try clear c14; try clear c15; try clear c18; try clear c22; try clear c23; try clear c25; try clear c26; try clear c29; try clear c30; try clear hcz16_0; try clear hcz16_1; try clear hcz16_2; try clear hcz19_0; try clear hcz19_1; try clear hcz19_2; try clear hcz24_0; try clear hcz24_1; try clear hcz24_2; try clear hcz27_0; try clear hcz27_1; try clear hcz27_2; try clear hcz31_0; try clear hcz31_1; try clear hcz31_2; try clear hfz16_0; try clear hfz16_1; try clear hfz16_2; try clear hfz19_0; try clear hfz19_1; try clear hfz19_2; try clear hfz24_0; try clear hfz24_1; try clear hfz24_2; try clear hfz27_0; try clear hfz27_1; try clear hfz27_2; try clear hfz31_0; try clear hfz31_1; try clear hfz31_2
  obtain ⟨kq, x27_4, rfl, HA, HJ4, BK320, BK321, BK322, HB⟩ := hcut
  cases kq with
  | zero => exact absurd HA.out (by simp [spec_TrainTick.j0])
  | succ kj4 =>
   have H := HA.out
   clear HA
   simp only [spec_TrainTick.j0] at H
   by_cases c33 : x27_4 = true
   ·subst c33
    have H1 : (some (false, 0, 0, 0, ([] : List (S60)), 0)) = some (r1, r2, r3, r4, r5, r6) := by rw [if_pos rfl] at H; exact H
    clear H; have H := H1; clear H1
    simp only [Option.some.injEq, Prod.mk.injEq] at H
    obtain ⟨rfl, rfl, rfl, rfl, rfl, rfl⟩ := H
    have hnb34 := NB322_320.out
    have hnc34 := NB320_322.out
    have hnb35 := NB322_321.out
    have hnc35 := NB321_322.out
    have hcz36_0 := b0 BK322
    have hcz36_1 := b1 BK322
    have hcz36_2 := b2 BK322
    have hcz36_3 := b3 BK322
    have hcz36_4 := b4 BK322
    have hcz36_5 := b5 BK322
    have hfz36_0 := blk_frozen BK322.out 0
    have hfz36_1 := blk_frozen BK322.out 1
    have hfz36_2 := blk_frozen BK322.out 2
    have hfz36_3 := blk_frozen BK322.out 3
    have hfz36_4 := blk_frozen BK322.out 4
    have hfz36_5 := blk_frozen BK322.out 5
    go_wp2
    repeat (go_quiet (fail); try go_wp2)
    refine bodyPost_ret (results_cell_row rfl _ _ gb322 50 #[.bool false, .int .i64 0, .int .i64 0, .int .i64 0, .slice none 0 0, .int .i64 0] (0, 0) _ rfl (by refine qz ?_; refine blk_put (cs := #[.bool false, .int .i64 0, .int .i64 0, .int .i64 0, .slice none 0 0, .int .i64 0]) ?_ 5 _ rfl; refine qz ?_; refine blk_put (cs := #[.bool false, .int .i64 0, .int .i64 0, .int .i64 0, .slice none 0 0, .int .i64 0]) ?_ 4 _ rfl; refine qz ?_; refine blk_put (cs := #[.bool false, .int .i64 0, .int .i64 0, .int .i64 0, .slice none 0 0, .int .i64 0]) ?_ 3 _ rfl; refine qz ?_; refine blk_put (cs := #[.bool false, .int .i64 0, .int .i64 0, .int .i64 0, .slice none 0 0, .int .i64 0]) ?_ 2 _ rfl; refine qz ?_; refine blk_put (cs := #[.bool false, .int .i64 0, .int .i64 0, .int .i64 0, .slice none 0 0, .int .i64 0]) ?_ 1 _ rfl; refine qz ?_; refine blk_put (cs := #[.bool false, .int .i64 0, .int .i64 0, .int .i64 0, .slice none 0 0, .int .i64 0]) ?_ 0 _ rfl; refine qz ?_; exact BK322.out) Try.underlying50 rfl (by kernel_rfl)) rfl ?_
    exact ⟨_, by first | rfl | (simp [*, errW_none, errW_some] <;> rfl), by first | exact Kd.R_nil _ _ _ _ _ | exact Kd.N_nil _ _ _ _ _ | exact Kd.V_nil _ _ _ _ _ | exact Kd.Q_nil _ _ _ _ _ | exact Kd.S_nil _ _ _ _ _, (qs HB)⟩
   replace c33 := Bool.eq_false_iff.mpr c33
   subst c33
   have H1 : (spec_TrainTick.l0 kj4 a1 l3 (l3.length : Int) 0 a0_0 a0_1 a0_2 true a2_0 a2_1 a2_2 ([] : List (S60)) 0) = some (r1, r2, r3, r4, r5, r6) := by rw [if_neg (show ¬ (false = true) by decide)] at H; exact H
   clear H; have H := H1; clear H1
   have H' := Aside0.mk H
   clear H
   have hnb37 := NB321_320.out
   have hnc37 := NB320_321.out
   have hnb38 := NB321_322.out
   have hnc38 := NB322_321.out
   have hcz39_0 := b0 BK321
   have hcz39_1 := b1 BK321
   have hcz39_2 := b2 BK321
   have hfz39_0 := blk_frozen BK321.out 0
   have hfz39_1 := blk_frozen BK321.out 1
   have hfz39_2 := blk_frozen BK321.out 2
   go_wp2_with (first | ((with_reducible refine gate_dst (N := 9) rfl ?_); refine boxA #[.bool false, .int .i64 0, .int .i64 0, .int .i64 0, .slice none 0 0, .int .i64 0] 50 ?_; intro gb326 hg w40 hbox hb; have BK326 := Aside0.mk (hbox); have GW326 := nge HB hg; have GE326 := nge HB hg; replace HB := bst HB hb; have NB320_326 := nlt BK320 hg; have NB326_320 := ngt BK320 hg; replace BK320 := bkb BK320 hb; have NB321_326 := nlt BK321 hg; have NB326_321 := ngt BK321 hg; replace BK321 := bkb BK321 hb; have NB322_326 := nlt BK322 hg; have NB326_322 := ngt BK322 hg; replace BK322 := bkb BK322 hb; clear hb hbox hg; have hnb41 := NB326_320.out; have hnc41 := NB320_326.out; have hnb42 := NB326_321.out; have hnc42 := NB321_326.out; have hnb43 := NB326_322.out; have hnc43 := NB322_326.out; have hcz44_0 := b0 BK326; have hcz44_1 := b1 BK326; have hcz44_2 := b2 BK326; have hcz44_3 := b3 BK326; have hcz44_4 := b4 BK326; have hcz44_5 := b5 BK326; have hfz44_0 := blk_frozen BK326.out 0; have hfz44_1 := blk_frozen BK326.out 1; have hfz44_2 := blk_frozen BK326.out 2; have hfz44_3 := blk_frozen BK326.out 3; have hfz44_4 := blk_frozen BK326.out 4; have hfz44_5 := blk_frozen BK326.out 5))
   repeat (go_quiet (fail); try go_wp2_with (first | ((with_reducible refine gate_dst (N := 9) rfl ?_); refine boxA #[.bool false, .int .i64 0, .int .i64 0, .int .i64 0, .slice none 0 0, .int .i64 0] 50 ?_; intro gb326 hg w40 hbox hb; have BK326 := Aside0.mk (hbox); have GW326 := nge HB hg; have GE326 := nge HB hg; replace HB := bst HB hb; have NB320_326 := nlt BK320 hg; have NB326_320 := ngt BK320 hg; replace BK320 := bkb BK320 hb; have NB321_326 := nlt BK321 hg; have NB326_321 := ngt BK321 hg; replace BK321 := bkb BK321 hb; have NB322_326 := nlt BK322 hg; have NB326_322 := ngt BK322 hg; replace BK322 := bkb BK322 hb; clear hb hbox hg; have hnb41 := NB326_320.out; have hnc41 := NB320_326.out; have hnb42 := NB326_321.out; have hnc42 := NB321_326.out; have hnb43 := NB326_322.out; have hnc43 := NB322_326.out; have hcz44_0 := b0 BK326; have hcz44_1 := b1 BK326; have hcz44_2 := b2 BK326; have hcz44_3 := b3 BK326; have hcz44_4 := b4 BK326; have hcz44_5 := b5 BK326; have hfz44_0 := blk_frozen BK326.out 0; have hfz44_1 := blk_frozen BK326.out 1; have hfz44_2 := blk_frozen BK326.out 2; have hfz44_3 := blk_frozen BK326.out 3; have hfz44_4 := blk_frozen BK326.out 4; have hfz44_5 := blk_frozen BK326.out 5)))
   go_loopg [34] kj4 (fun kq v34 w' => ∃ (x34_2 : Int) (x327001_2 : Int) (x327002_2 : Int) (x327003_2 : Int) (x327004_2 : List (S60)) (x327005_2 : Int) (u327004 : Value), v34 = .int .i64 x34_2 ∧ Aside0 (spec_TrainTick.l0 kq a1 l3 (l3.length : Int) x34_2 a0_0 a0_1 a0_2 true x327001_2 x327002_2 x327003_2 x327004_2 x327005_2 = some (r1, r2, r3, r4, r5, r6)) ∧ Aside0 (kq ≤ kj4) ∧ Aside0 (Kd.R k60 60 w' w.heap.size (fun _ => True) u327004 x327004_2) ∧ Aside0 (w'.heap[gb320]? = some (.cells #[.int .i64 a0_0, .int .i64 a0_1, .int .i64 a0_2] 34 (0, 0))) ∧ Aside0 (w'.heap[gb321]? = some (.cells #[.int .i64 a2_0, .int .i64 a2_1, .int .i64 a2_2] 48 (0, 0))) ∧ Aside0 (w'.heap[gb322]? = some (.cells #[.bool false, .int .i64 0, .int .i64 0, .int .i64 0, (.slice none 0 0), .int .i64 0] 50 (0, 0))) ∧ Aside0 (w'.heap[gb326]? = some (.cells #[.bool true, .int .i64 x327001_2, .int .i64 x327002_2, .int .i64 x327003_2, u327004, .int .i64 x327005_2] 50 (0, 0))) ∧ Aside0 (Below w.heap.size w w'))
   case atStart => exact ⟨(0), (a2_0), (a2_1), (a2_2), (([] : List (S60))), (0), (.slice none 0 0), (by first | rfl | (simp; done) | (simp [*]; done)), H', ⟨Nat.le_refl _⟩, ⟨by first | exact Kd.R_nil _ _ _ _ _ | exact Kd.N_nil _ _ _ _ _ | exact Kd.V_nil _ _ _ _ _ | exact Kd.Q_nil _ _ _ _ _ | exact Kd.S_nil _ _ _ _ _⟩, ⟨qB BK320⟩, ⟨qB BK321⟩, ⟨qB BK322⟩, ⟨by refine qz ?_; refine blk_put (cs := #[.bool true, .int .i64 a2_0, .int .i64 a2_1, .int .i64 a2_2, .slice none 0 0, .int .i64 0]) ?_ 5 _ rfl; refine qz ?_; refine blk_put (cs := #[.bool true, .int .i64 a2_0, .int .i64 a2_1, .int .i64 a2_2, .slice none 0 0, .int .i64 0]) ?_ 4 _ rfl; refine qz ?_; refine blk_put (cs := #[.bool true, .int .i64 a2_0, .int .i64 a2_1, .int .i64 0, .slice none 0 0, .int .i64 0]) ?_ 3 _ rfl; refine qz ?_; refine blk_put (cs := #[.bool true, .int .i64 a2_0, .int .i64 0, .int .i64 0, .slice none 0 0, .int .i64 0]) ?_ 2 _ rfl; refine qz ?_; refine blk_put (cs := #[.bool true, .int .i64 0, .int .i64 0, .int .i64 0, .slice none 0 0, .int .i64 0]) ?_ 1 _ rfl; refine qz ?_; refine blk_put (cs := #[.bool false, .int .i64 0, .int .i64 0, .int .i64 0, .slice none 0 0, .int .i64 0]) ?_ 0 _ rfl; refine qz ?_; exact BK326.out⟩, ⟨(qs HB)⟩⟩
   case round =>
    clear H'
    try clear c1; try clear c2; try clear p2; try clear c3; try clear c4; try clear c10; try clear c12; try clear c14; try clear c15; try clear c18; try clear c22; try clear c23; try clear c25; try clear c26; try clear c29; try clear c30; try clear c33; try clear c34; try clear c35; try clear c37; try clear c38; try clear c41; try clear c42; try clear c43; try clear hcz16_0; try clear hcz16_1; try clear hcz16_2; try clear hcz19_0; try clear hcz19_1; try clear hcz19_2; try clear hcz24_0; try clear hcz24_1; try clear hcz24_2; try clear hcz27_0; try clear hcz27_1; try clear hcz27_2; try clear hcz31_0; try clear hcz31_1; try clear hcz31_2; try clear hcz36_0; try clear hcz36_1; try clear hcz36_2; try clear hcz36_3; try clear hcz36_4; try clear hcz36_5; try clear hcz39_0; try clear hcz39_1; try clear hcz39_2; try clear hcz44_0; try clear hcz44_1; try clear hcz44_2; try clear hcz44_3; try clear hcz44_4; try clear hcz44_5; try clear hfz16_0; try clear hfz16_1; try clear hfz16_2; try clear hfz19_0; try clear hfz19_1; try clear hfz19_2; try clear hfz24_0; try clear hfz24_1; try clear hfz24_2; try clear hfz27_0; try clear hfz27_1; try clear hfz27_2; try clear hfz31_0; try clear hfz31_1; try clear hfz31_2; try clear hfz36_0; try clear hfz36_1; try clear hfz36_2; try clear hfz36_3; try clear hfz36_4; try clear hfz36_5; try clear hfz39_0; try clear hfz39_1; try clear hfz39_2; try clear hfz44_0; try clear hfz44_1; try clear hfz44_2; try clear hfz44_3; try clear hfz44_4; try clear hfz44_5; try clear p2
    obtain ⟨x34_2, x327001_2, x327002_2, x327003_2, x327004_2, x327005_2, u327004, rfl, HA, HK2, HO_327004, BK320, BK321, BK322, BK326, HB⟩ := hrel
    cases gk with
    | zero => exact absurd HA.out (by simp [spec_TrainTick.l0])
    | succ k2 =>
     have H := HA.out
     clear HA
     simp only [spec_TrainTick.l0] at H
     by_cases c45 : x34_2 < (l3.length : Int)
     ·rw [if_pos c45] at H
      have c45b0 : decide (x34_2 < (l3.length : Int)) = true := decide_eq_true c45
      clear c45
      by_cases c46 : 0 ≤ x34_2
      ·rw [if_pos c46] at H
       have c46b0 : decide (0 ≤ x34_2) = true := decide_eq_true c46
       clear c46
       by_cases c47 : x34_2 < (l3.length : Int)
       ·rw [if_pos c47] at H
        have c47b0 : decide (x34_2 < (l3.length : Int)) = true := decide_eq_true c47
        clear c47
        by_cases c48 : ((rd_T60 l3 x34_2).f0) = 1
        ·rw [if_pos c48] at H
         have c48b0 : (((rd_T60 l3 x34_2).f0) == 1) = true := beq_iff_eq.mpr c48
         have c48b1 : (((rd_T60 l3 x34_2).f0) != 1) = false := bne_eq_false_iff_eq.mpr c48
         clear c48
         by_cases c49 : (wrap64 (a1 - ((rd_T60 l3 x34_2).f3))) > a0_2
         ·rw [if_pos c49] at H
          have c49b0 : decide (a0_2 < (wrap64 (a1 - ((rd_T60 l3 x34_2).f3)))) = true := decide_eq_true c49
          clear c49
          have H' := Aside0.mk H
          clear H
          have p327 : 0 ≤ (x34_2 : Int) := of_decide_eq_true (by assumption)
          have q327 : x34_2 < (l3.length : Int) := of_decide_eq_true (by assumption)
          obtain ⟨ad327, e327, hx327_0, hx327_1, hx327_2, hx327_3⟩ := at_T60 HR3.out x34_2 p327 q327
          cases e327
          replace hx327_0 := (HB.out.cell (World.block_lt_of_cell? w _ hx327_0)).trans hx327_0
          replace hx327_1 := (HB.out.cell (World.block_lt_of_cell? w _ hx327_1)).trans hx327_1
          replace hx327_2 := (HB.out.cell (World.block_lt_of_cell? w _ hx327_2)).trans hx327_2
          replace hx327_3 := (HB.out.cell (World.block_lt_of_cell? w _ hx327_3)).trans hx327_3
          replace p327 := eq_true p327
          replace q327 := eq_true q327
          go_wp2_with (first | ((with_reducible refine gate_dst (N := 12) rfl ?_); refine boxA #[.int .i64 0, .int .i64 0, .int .i64 0, .int .i64 0] 60 ?_; intro gb328 hg w50 hbox hb; replace HO_327004 := Aside0.mk (Kd.R_below (Kd.R_elderB (qr HO_327004) gb328 (Nat.le_of_eq hg.symm)) hb); have BK328 := Aside0.mk (hbox); have GW328 := nge HB hg; have GE328 := nge HB hg; replace HB := bst HB hb; have NB320_328 := nlt BK320 hg; have NB328_320 := ngt BK320 hg; replace BK320 := bkb BK320 hb; have NB321_328 := nlt BK321 hg; have NB328_321 := ngt BK321 hg; replace BK321 := bkb BK321 hb; have NB322_328 := nlt BK322 hg; have NB328_322 := ngt BK322 hg; replace BK322 := bkb BK322 hb; have NB326_328 := nlt BK326 hg; have NB328_326 := ngt BK326 hg; replace BK326 := bkb BK326 hb; clear hb hbox hg; have hnb51 := NB328_320.out; have hnc51 := NB320_328.out; have hnb52 := NB328_321.out; have hnc52 := NB321_328.out; have hnb53 := NB328_322.out; have hnc53 := NB322_328.out; have hnb54 := NB328_326.out; have hnc54 := NB326_328.out; have hcz55_0 := b0 BK328; have hcz55_1 := b1 BK328; have hcz55_2 := b2 BK328; have hcz55_3 := b3 BK328; have hfz55_0 := blk_frozen BK328.out 0; have hfz55_1 := blk_frozen BK328.out 1; have hfz55_2 := blk_frozen BK328.out 2; have hfz55_3 := blk_frozen BK328.out 3; have hnb56 := NB320_321.out; have hnc56 := NB321_320.out; have hnb57 := NB320_322.out; have hnc57 := NB322_320.out; have hnb58 := NB320_326.out; have hnc58 := NB326_320.out; have hcz59_0 := b0 BK320; have hcz59_1 := b1 BK320; have hcz59_2 := b2 BK320; have hfz59_0 := blk_frozen BK320.out 0; have hfz59_1 := blk_frozen BK320.out 1; have hfz59_2 := blk_frozen BK320.out 2))
          repeat (go_quiet (fail); try go_wp2_with (first | ((with_reducible refine gate_dst (N := 12) rfl ?_); refine boxA #[.int .i64 0, .int .i64 0, .int .i64 0, .int .i64 0] 60 ?_; intro gb328 hg w50 hbox hb; replace HO_327004 := Aside0.mk (Kd.R_below (Kd.R_elderB (qr HO_327004) gb328 (Nat.le_of_eq hg.symm)) hb); have BK328 := Aside0.mk (hbox); have GW328 := nge HB hg; have GE328 := nge HB hg; replace HB := bst HB hb; have NB320_328 := nlt BK320 hg; have NB328_320 := ngt BK320 hg; replace BK320 := bkb BK320 hb; have NB321_328 := nlt BK321 hg; have NB328_321 := ngt BK321 hg; replace BK321 := bkb BK321 hb; have NB322_328 := nlt BK322 hg; have NB328_322 := ngt BK322 hg; replace BK322 := bkb BK322 hb; have NB326_328 := nlt BK326 hg; have NB328_326 := ngt BK326 hg; replace BK326 := bkb BK326 hb; clear hb hbox hg; have hnb51 := NB328_320.out; have hnc51 := NB320_328.out; have hnb52 := NB328_321.out; have hnc52 := NB321_328.out; have hnb53 := NB328_322.out; have hnc53 := NB322_328.out; have hnb54 := NB328_326.out; have hnc54 := NB326_328.out; have hcz55_0 := b0 BK328; have hcz55_1 := b1 BK328; have hcz55_2 := b2 BK328; have hcz55_3 := b3 BK328; have hfz55_0 := blk_frozen BK328.out 0; have hfz55_1 := blk_frozen BK328.out 1; have hfz55_2 := blk_frozen BK328.out 2; have hfz55_3 := blk_frozen BK328.out 3; have hnb56 := NB320_321.out; have hnc56 := NB321_320.out; have hnb57 := NB320_322.out; have hnc57 := NB322_320.out; have hnb58 := NB320_326.out; have hnc58 := NB326_320.out; have hcz59_0 := b0 BK320; have hcz59_1 := b1 BK320; have hcz59_2 := b2 BK320; have hfz59_0 := blk_frozen BK320.out 0; have hfz59_1 := blk_frozen BK320.out 1; have hfz59_2 := blk_frozen BK320.out 2)))
          go_roundg k2
          case measure => have := HJ4.out; have := HK2.out; omega
          case rel => exact ⟨(wrap64 (x34_2 + 1)), (x327001_2), (x327002_2), (x327003_2), (x327004_2), (x327005_2), (u327004), (by first | rfl | (simp; done) | (simp [*]; done)), H', ⟨by have := HJ4.out; have := HK2.out; omega⟩, ⟨by (with_reducible repeat (first | apply Kd.R_alloc | apply Kd.R_drewN | apply Kd.R_drew)); exact Kd.R_mono (Kd.R_far (p := ⟨gb328, 3, none⟩) (Kd.R_far (p := ⟨gb328, 2, none⟩) (Kd.R_far (p := ⟨gb328, 1, none⟩) (Kd.R_far (p := ⟨gb328, 0, none⟩) (Kd.R_mono HO_327004.out (fun k_ hk => (⟨hk, hk.2⟩ : _ ∧ k_ ≠ gb328))) (fun _ hk => hk.2) (.int .i64 ((rd_T60 l3 x34_2).f0))) (fun _ hk => hk.2) (.int .i64 ((rd_T60 l3 x34_2).f1))) (fun _ hk => hk.2) (.int .i64 ((rd_T60 l3 x34_2).f2))) (fun _ hk => hk.2) (.int .i64 ((rd_T60 l3 x34_2).f3))) (fun _ hk => trivial)⟩, ⟨qB BK320⟩, ⟨qB BK321⟩, ⟨qB BK322⟩, ⟨qB BK326⟩, ⟨(qs HB)⟩⟩
         rw [if_neg c49] at H
         have c49b0 : decide (a0_2 < (wrap64 (a1 - ((rd_T60 l3 x34_2).f3)))) = false := decide_eq_false c49
         clear c49
         by_cases c60 : ((rd_T60 l3 x34_2).f3) ≤ x327003_2
         ·rw [if_pos c60] at H
          have c60b0 : decide (((rd_T60 l3 x34_2).f3) ≤ x327003_2) = true := decide_eq_true c60
          clear c60
          have H' := Aside0.mk H
          clear H
          have p327 : 0 ≤ (x34_2 : Int) := of_decide_eq_true (by assumption)
          have q327 : x34_2 < (l3.length : Int) := of_decide_eq_true (by assumption)
          obtain ⟨ad327, e327, hx327_0, hx327_1, hx327_2, hx327_3⟩ := at_T60 HR3.out x34_2 p327 q327
          cases e327
          replace hx327_0 := (HB.out.cell (World.block_lt_of_cell? w _ hx327_0)).trans hx327_0
          replace hx327_1 := (HB.out.cell (World.block_lt_of_cell? w _ hx327_1)).trans hx327_1
          replace hx327_2 := (HB.out.cell (World.block_lt_of_cell? w _ hx327_2)).trans hx327_2
          replace hx327_3 := (HB.out.cell (World.block_lt_of_cell? w _ hx327_3)).trans hx327_3
          replace p327 := eq_true p327
          replace q327 := eq_true q327
          go_wp2_with (first | ((with_reducible refine gate_dst (N := 12) rfl ?_); refine boxA #[.int .i64 0, .int .i64 0, .int .i64 0, .int .i64 0] 60 ?_; intro gb328 hg w61 hbox hb; replace HO_327004 := Aside0.mk (Kd.R_below (Kd.R_elderB (qr HO_327004) gb328 (Nat.le_of_eq hg.symm)) hb); have BK328 := Aside0.mk (hbox); have GW328 := nge HB hg; have GE328 := nge HB hg; replace HB := bst HB hb; have NB320_328 := nlt BK320 hg; have NB328_320 := ngt BK320 hg; replace BK320 := bkb BK320 hb; have NB321_328 := nlt BK321 hg; have NB328_321 := ngt BK321 hg; replace BK321 := bkb BK321 hb; have NB322_328 := nlt BK322 hg; have NB328_322 := ngt BK322 hg; replace BK322 := bkb BK322 hb; have NB326_328 := nlt BK326 hg; have NB328_326 := ngt BK326 hg; replace BK326 := bkb BK326 hb; clear hb hbox hg; have hnb62 := NB328_320.out; have hnc62 := NB320_328.out; have hnb63 := NB328_321.out; have hnc63 := NB321_328.out; have hnb64 := NB328_322.out; have hnc64 := NB322_328.out; have hnb65 := NB328_326.out; have hnc65 := NB326_328.out; have hcz66_0 := b0 BK328; have hcz66_1 := b1 BK328; have hcz66_2 := b2 BK328; have hcz66_3 := b3 BK328; have hfz66_0 := blk_frozen BK328.out 0; have hfz66_1 := blk_frozen BK328.out 1; have hfz66_2 := blk_frozen BK328.out 2; have hfz66_3 := blk_frozen BK328.out 3; have hnb67 := NB320_321.out; have hnc67 := NB321_320.out; have hnb68 := NB320_322.out; have hnc68 := NB322_320.out; have hnb69 := NB320_326.out; have hnc69 := NB326_320.out; have hcz70_0 := b0 BK320; have hcz70_1 := b1 BK320; have hcz70_2 := b2 BK320; have hfz70_0 := blk_frozen BK320.out 0; have hfz70_1 := blk_frozen BK320.out 1; have hfz70_2 := blk_frozen BK320.out 2; have hnb71 := NB326_321.out; have hnc71 := NB321_326.out; have hnb72 := NB326_322.out; have hnc72 := NB322_326.out; have hcz73_0 := b0 BK326; have hcz73_1 := b1 BK326; have hcz73_2 := b2 BK326; have hcz73_3 := b3 BK326; have hcz73_4 := b4 BK326; have hcz73_5 := b5 BK326; have hfz73_0 := blk_frozen BK326.out 0; have hfz73_1 := blk_frozen BK326.out 1; have hfz73_2 := blk_frozen BK326.out 2; have hfz73_3 := blk_frozen BK326.out 3; have hfz73_4 := blk_frozen BK326.out 4; have hfz73_5 := blk_frozen BK326.out 5))
          repeat (go_quiet (fail); try go_wp2_with (first | ((with_reducible refine gate_dst (N := 12) rfl ?_); refine boxA #[.int .i64 0, .int .i64 0, .int .i64 0, .int .i64 0] 60 ?_; intro gb328 hg w61 hbox hb; replace HO_327004 := Aside0.mk (Kd.R_below (Kd.R_elderB (qr HO_327004) gb328 (Nat.le_of_eq hg.symm)) hb); have BK328 := Aside0.mk (hbox); have GW328 := nge HB hg; have GE328 := nge HB hg; replace HB := bst HB hb; have NB320_328 := nlt BK320 hg; have NB328_320 := ngt BK320 hg; replace BK320 := bkb BK320 hb; have NB321_328 := nlt BK321 hg; have NB328_321 := ngt BK321 hg; replace BK321 := bkb BK321 hb; have NB322_328 := nlt BK322 hg; have NB328_322 := ngt BK322 hg; replace BK322 := bkb BK322 hb; have NB326_328 := nlt BK326 hg; have NB328_326 := ngt BK326 hg; replace BK326 := bkb BK326 hb; clear hb hbox hg; have hnb62 := NB328_320.out; have hnc62 := NB320_328.out; have hnb63 := NB328_321.out; have hnc63 := NB321_328.out; have hnb64 := NB328_322.out; have hnc64 := NB322_328.out; have hnb65 := NB328_326.out; have hnc65 := NB326_328.out; have hcz66_0 := b0 BK328; have hcz66_1 := b1 BK328; have hcz66_2 := b2 BK328; have hcz66_3 := b3 BK328; have hfz66_0 := blk_frozen BK328.out 0; have hfz66_1 := blk_frozen BK328.out 1; have hfz66_2 := blk_frozen BK328.out 2; have hfz66_3 := blk_frozen BK328.out 3; have hnb67 := NB320_321.out; have hnc67 := NB321_320.out; have hnb68 := NB320_322.out; have hnc68 := NB322_320.out; have hnb69 := NB320_326.out; have hnc69 := NB326_320.out; have hcz70_0 := b0 BK320; have hcz70_1 := b1 BK320; have hcz70_2 := b2 BK320; have hfz70_0 := blk_frozen BK320.out 0; have hfz70_1 := blk_frozen BK320.out 1; have hfz70_2 := blk_frozen BK320.out 2; have hnb71 := NB326_321.out; have hnc71 := NB321_326.out; have hnb72 := NB326_322.out; have hnc72 := NB322_326.out; have hcz73_0 := b0 BK326; have hcz73_1 := b1 BK326; have hcz73_2 := b2 BK326; have hcz73_3 := b3 BK326; have hcz73_4 := b4 BK326; have hcz73_5 := b5 BK326; have hfz73_0 := blk_frozen BK326.out 0; have hfz73_1 := blk_frozen BK326.out 1; have hfz73_2 := blk_frozen BK326.out 2; have hfz73_3 := blk_frozen BK326.out 3; have hfz73_4 := blk_frozen BK326.out 4; have hfz73_5 := blk_frozen BK326.out 5)))
          go_roundg k2
          case measure => have := HJ4.out; have := HK2.out; omega
          case rel => exact ⟨(wrap64 (x34_2 + 1)), (x327001_2), (x327002_2), (x327003_2), (x327004_2), (x327005_2), (u327004), (by first | rfl | (simp; done) | (simp [*]; done)), H', ⟨by have := HJ4.out; have := HK2.out; omega⟩, ⟨by (with_reducible repeat (first | apply Kd.R_alloc | apply Kd.R_drewN | apply Kd.R_drew)); exact Kd.R_mono (Kd.R_far (p := ⟨gb328, 3, none⟩) (Kd.R_far (p := ⟨gb328, 2, none⟩) (Kd.R_far (p := ⟨gb328, 1, none⟩) (Kd.R_far (p := ⟨gb328, 0, none⟩) (Kd.R_mono HO_327004.out (fun k_ hk => (⟨hk, hk.2⟩ : _ ∧ k_ ≠ gb328))) (fun _ hk => hk.2) (.int .i64 ((rd_T60 l3 x34_2).f0))) (fun _ hk => hk.2) (.int .i64 ((rd_T60 l3 x34_2).f1))) (fun _ hk => hk.2) (.int .i64 ((rd_T60 l3 x34_2).f2))) (fun _ hk => hk.2) (.int .i64 ((rd_T60 l3 x34_2).f3))) (fun _ hk => trivial)⟩, ⟨qB BK320⟩, ⟨qB BK321⟩, ⟨qB BK322⟩, ⟨qB BK326⟩, ⟨(qs HB)⟩⟩
         rw [if_neg c60] at H
         have c60b0 : decide (((rd_T60 l3 x34_2).f3) ≤ x327003_2) = false := decide_eq_false c60
         clear c60
         by_cases c74 : ((rd_T60 l3 x34_2).f1) < x327001_2
         ·rw [if_pos c74] at H
          have c74b0 : decide (((rd_T60 l3 x34_2).f1) < x327001_2) = true := decide_eq_true c74
          clear c74
          have H' := Aside0.mk H
          clear H
          have p327 : 0 ≤ (x34_2 : Int) := of_decide_eq_true (by assumption)
          have q327 : x34_2 < (l3.length : Int) := of_decide_eq_true (by assumption)
          obtain ⟨ad327, e327, hx327_0, hx327_1, hx327_2, hx327_3⟩ := at_T60 HR3.out x34_2 p327 q327
          cases e327
          replace hx327_0 := (HB.out.cell (World.block_lt_of_cell? w _ hx327_0)).trans hx327_0
          replace hx327_1 := (HB.out.cell (World.block_lt_of_cell? w _ hx327_1)).trans hx327_1
          replace hx327_2 := (HB.out.cell (World.block_lt_of_cell? w _ hx327_2)).trans hx327_2
          replace hx327_3 := (HB.out.cell (World.block_lt_of_cell? w _ hx327_3)).trans hx327_3
          replace p327 := eq_true p327
          replace q327 := eq_true q327
          go_wp2_with (first | ((with_reducible refine gate_dst (N := 12) rfl ?_); refine boxA #[.int .i64 0, .int .i64 0, .int .i64 0, .int .i64 0] 60 ?_; intro gb328 hg w75 hbox hb; replace HO_327004 := Aside0.mk (Kd.R_below (Kd.R_elderB (qr HO_327004) gb328 (Nat.le_of_eq hg.symm)) hb); have BK328 := Aside0.mk (hbox); have GW328 := nge HB hg; have GE328 := nge HB hg; replace HB := bst HB hb; have NB320_328 := nlt BK320 hg; have NB328_320 := ngt BK320 hg; replace BK320 := bkb BK320 hb; have NB321_328 := nlt BK321 hg; have NB328_321 := ngt BK321 hg; replace BK321 := bkb BK321 hb; have NB322_328 := nlt BK322 hg; have NB328_322 := ngt BK322 hg; replace BK322 := bkb BK322 hb; have NB326_328 := nlt BK326 hg; have NB328_326 := ngt BK326 hg; replace BK326 := bkb BK326 hb; clear hb hbox hg; have hnb76 := NB328_320.out; have hnc76 := NB320_328.out; have hnb77 := NB328_321.out; have hnc77 := NB321_328.out; have hnb78 := NB328_322.out; have hnc78 := NB322_328.out; have hnb79 := NB328_326.out; have hnc79 := NB326_328.out; have hcz80_0 := b0 BK328; have hcz80_1 := b1 BK328; have hcz80_2 := b2 BK328; have hcz80_3 := b3 BK328; have hfz80_0 := blk_frozen BK328.out 0; have hfz80_1 := blk_frozen BK328.out 1; have hfz80_2 := blk_frozen BK328.out 2; have hfz80_3 := blk_frozen BK328.out 3; have hnb81 := NB320_321.out; have hnc81 := NB321_320.out; have hnb82 := NB320_322.out; have hnc82 := NB322_320.out; have hnb83 := NB320_326.out; have hnc83 := NB326_320.out; have hcz84_0 := b0 BK320; have hcz84_1 := b1 BK320; have hcz84_2 := b2 BK320; have hfz84_0 := blk_frozen BK320.out 0; have hfz84_1 := blk_frozen BK320.out 1; have hfz84_2 := blk_frozen BK320.out 2; have hnb85 := NB326_321.out; have hnc85 := NB321_326.out; have hnb86 := NB326_322.out; have hnc86 := NB322_326.out; have hcz87_0 := b0 BK326; have hcz87_1 := b1 BK326; have hcz87_2 := b2 BK326; have hcz87_3 := b3 BK326; have hcz87_4 := b4 BK326; have hcz87_5 := b5 BK326; have hfz87_0 := blk_frozen BK326.out 0; have hfz87_1 := blk_frozen BK326.out 1; have hfz87_2 := blk_frozen BK326.out 2; have hfz87_3 := blk_frozen BK326.out 3; have hfz87_4 := blk_frozen BK326.out 4; have hfz87_5 := blk_frozen BK326.out 5))
          repeat (go_quiet (fail); try go_wp2_with (first | ((with_reducible refine gate_dst (N := 12) rfl ?_); refine boxA #[.int .i64 0, .int .i64 0, .int .i64 0, .int .i64 0] 60 ?_; intro gb328 hg w75 hbox hb; replace HO_327004 := Aside0.mk (Kd.R_below (Kd.R_elderB (qr HO_327004) gb328 (Nat.le_of_eq hg.symm)) hb); have BK328 := Aside0.mk (hbox); have GW328 := nge HB hg; have GE328 := nge HB hg; replace HB := bst HB hb; have NB320_328 := nlt BK320 hg; have NB328_320 := ngt BK320 hg; replace BK320 := bkb BK320 hb; have NB321_328 := nlt BK321 hg; have NB328_321 := ngt BK321 hg; replace BK321 := bkb BK321 hb; have NB322_328 := nlt BK322 hg; have NB328_322 := ngt BK322 hg; replace BK322 := bkb BK322 hb; have NB326_328 := nlt BK326 hg; have NB328_326 := ngt BK326 hg; replace BK326 := bkb BK326 hb; clear hb hbox hg; have hnb76 := NB328_320.out; have hnc76 := NB320_328.out; have hnb77 := NB328_321.out; have hnc77 := NB321_328.out; have hnb78 := NB328_322.out; have hnc78 := NB322_328.out; have hnb79 := NB328_326.out; have hnc79 := NB326_328.out; have hcz80_0 := b0 BK328; have hcz80_1 := b1 BK328; have hcz80_2 := b2 BK328; have hcz80_3 := b3 BK328; have hfz80_0 := blk_frozen BK328.out 0; have hfz80_1 := blk_frozen BK328.out 1; have hfz80_2 := blk_frozen BK328.out 2; have hfz80_3 := blk_frozen BK328.out 3; have hnb81 := NB320_321.out; have hnc81 := NB321_320.out; have hnb82 := NB320_322.out; have hnc82 := NB322_320.out; have hnb83 := NB320_326.out; have hnc83 := NB326_320.out; have hcz84_0 := b0 BK320; have hcz84_1 := b1 BK320; have hcz84_2 := b2 BK320; have hfz84_0 := blk_frozen BK320.out 0; have hfz84_1 := blk_frozen BK320.out 1; have hfz84_2 := blk_frozen BK320.out 2; have hnb85 := NB326_321.out; have hnc85 := NB321_326.out; have hnb86 := NB326_322.out; have hnc86 := NB322_326.out; have hcz87_0 := b0 BK326; have hcz87_1 := b1 BK326; have hcz87_2 := b2 BK326; have hcz87_3 := b3 BK326; have hcz87_4 := b4 BK326; have hcz87_5 := b5 BK326; have hfz87_0 := blk_frozen BK326.out 0; have hfz87_1 := blk_frozen BK326.out 1; have hfz87_2 := blk_frozen BK326.out 2; have hfz87_3 := blk_frozen BK326.out 3; have hfz87_4 := blk_frozen BK326.out 4; have hfz87_5 := blk_frozen BK326.out 5)))
          go_roundg k2
          case measure => have := HJ4.out; have := HK2.out; omega
          case rel => exact ⟨(wrap64 (x34_2 + 1)), (x327001_2), (x327002_2), (x327003_2), (x327004_2), (x327005_2), (u327004), (by first | rfl | (simp; done) | (simp [*]; done)), H', ⟨by have := HJ4.out; have := HK2.out; omega⟩, ⟨by (with_reducible repeat (first | apply Kd.R_alloc | apply Kd.R_drewN | apply Kd.R_drew)); exact Kd.R_mono (Kd.R_far (p := ⟨gb328, 3, none⟩) (Kd.R_far (p := ⟨gb328, 2, none⟩) (Kd.R_far (p := ⟨gb328, 1, none⟩) (Kd.R_far (p := ⟨gb328, 0, none⟩) (Kd.R_mono HO_327004.out (fun k_ hk => (⟨hk, hk.2⟩ : _ ∧ k_ ≠ gb328))) (fun _ hk => hk.2) (.int .i64 ((rd_T60 l3 x34_2).f0))) (fun _ hk => hk.2) (.int .i64 ((rd_T60 l3 x34_2).f1))) (fun _ hk => hk.2) (.int .i64 ((rd_T60 l3 x34_2).f2))) (fun _ hk => hk.2) (.int .i64 ((rd_T60 l3 x34_2).f3))) (fun _ hk => trivial)⟩, ⟨qB BK320⟩, ⟨qB BK321⟩, ⟨qB BK322⟩, ⟨qB BK326⟩, ⟨(qs HB)⟩⟩
         rw [if_neg c74] at H
         have c74b0 : decide (((rd_T60 l3 x34_2).f1) < x327001_2) = false := decide_eq_false c74
         clear c74
         by_cases c88 : x327004_2.length < 4398046511104
         ·rw [if_pos c88] at H
          have LMc88 := Aside0.mk c88
          clear c88
          obtain ⟨y329, hy329⟩ : ∃ y_ : List (S60), y_ = (x327004_2 ++ [(⟨2, (rd_T60 l3 x34_2).f1, 0, (rd_T60 l3 x34_2).f3⟩ : S60)]) := ⟨_, rfl⟩
          replace H : (spec_TrainTick.l0 k2 a1 l3 (l3.length : Int) (wrap64 (x34_2 + 1)) a0_0 a0_1 a0_2 true ((rd_T60 l3 x34_2).f1) ((rd_T60 l3 x34_2).f2) ((rd_T60 l3 x34_2).f3) y329 (wrap64 (x327005_2 + 1))) = some (r1, r2, r3, r4, r5, r6) := by first | (rw [hy329]; with_reducible exact H) | (have H2_ := (Option.bind_some _ _).symm.trans H; rw [hy329]; with_reducible exact H2_) | (have H2_ := (Option.bind_some _ _).symm.trans H; with_reducible exact H2_) | with_reducible exact H | (rw [hy329]; exact H) | exact H
          have Ny329 := Aside0.mk hy329
          clear hy329
          have H' := Aside0.mk H
          clear H
          have p327 : 0 ≤ (x34_2 : Int) := of_decide_eq_true (by assumption)
          have q327 : x34_2 < (l3.length : Int) := of_decide_eq_true (by assumption)
          obtain ⟨ad327, e327, hx327_0, hx327_1, hx327_2, hx327_3⟩ := at_T60 HR3.out x34_2 p327 q327
          cases e327
          replace hx327_0 := (HB.out.cell (World.block_lt_of_cell? w _ hx327_0)).trans hx327_0
          replace hx327_1 := (HB.out.cell (World.block_lt_of_cell? w _ hx327_1)).trans hx327_1
          replace hx327_2 := (HB.out.cell (World.block_lt_of_cell? w _ hx327_2)).trans hx327_2
          replace hx327_3 := (HB.out.cell (World.block_lt_of_cell? w _ hx327_3)).trans hx327_3
          replace p327 := eq_true p327
          replace q327 := eq_true q327
          go_wp2_with (first | ((with_reducible refine gate_dst (N := 12) rfl ?_); refine boxA #[.int .i64 0, .int .i64 0, .int .i64 0, .int .i64 0] 60 ?_; intro gb328 hg w89 hbox hb; replace HO_327004 := Aside0.mk (Kd.R_below (Kd.R_elderB (qr HO_327004) gb328 (Nat.le_of_eq hg.symm)) hb); have BK328 := Aside0.mk (hbox); have GW328 := nge HB hg; have GE328 := nge HB hg; replace HB := bst HB hb; have NB320_328 := nlt BK320 hg; have NB328_320 := ngt BK320 hg; replace BK320 := bkb BK320 hb; have NB321_328 := nlt BK321 hg; have NB328_321 := ngt BK321 hg; replace BK321 := bkb BK321 hb; have NB322_328 := nlt BK322 hg; have NB328_322 := ngt BK322 hg; replace BK322 := bkb BK322 hb; have NB326_328 := nlt BK326 hg; have NB328_326 := ngt BK326 hg; replace BK326 := bkb BK326 hb; clear hb hbox hg; have hnb90 := NB328_320.out; have hnc90 := NB320_328.out; have hnb91 := NB328_321.out; have hnc91 := NB321_328.out; have hnb92 := NB328_322.out; have hnc92 := NB322_328.out; have hnb93 := NB328_326.out; have hnc93 := NB326_328.out; have hcz94_0 := b0 BK328; have hcz94_1 := b1 BK328; have hcz94_2 := b2 BK328; have hcz94_3 := b3 BK328; have hfz94_0 := blk_frozen BK328.out 0; have hfz94_1 := blk_frozen BK328.out 1; have hfz94_2 := blk_frozen BK328.out 2; have hfz94_3 := blk_frozen BK328.out 3; have hnb95 := NB320_321.out; have hnc95 := NB321_320.out; have hnb96 := NB320_322.out; have hnc96 := NB322_320.out; have hnb97 := NB320_326.out; have hnc97 := NB326_320.out; have hcz98_0 := b0 BK320; have hcz98_1 := b1 BK320; have hcz98_2 := b2 BK320; have hfz98_0 := blk_frozen BK320.out 0; have hfz98_1 := blk_frozen BK320.out 1; have hfz98_2 := blk_frozen BK320.out 2; have hnb99 := NB326_321.out; have hnc99 := NB321_326.out; have hnb100 := NB326_322.out; have hnc100 := NB322_326.out; have hcz101_0 := b0 BK326; have hcz101_1 := b1 BK326; have hcz101_2 := b2 BK326; have hcz101_3 := b3 BK326; have hcz101_4 := b4 BK326; have hcz101_5 := b5 BK326; have hfz101_0 := blk_frozen BK326.out 0; have hfz101_1 := blk_frozen BK326.out 1; have hfz101_2 := blk_frozen BK326.out 2; have hfz101_3 := blk_frozen BK326.out 3; have hfz101_4 := blk_frozen BK326.out 4; have hfz101_5 := blk_frozen BK326.out 5) | ((with_reducible refine gate_builtin (b := .append) (xs := #[.tmp 88, .tmp 94]) rfl ?_); at_builtin; refine Kd.R_append k60 (w0 := w) w.heap.size rfl (.tmp 88) (.tmp 94) 30 60 (.agg #[(.int .i64 0), (.int .i64 0), (.int .i64 0), (.int .i64 0)]) 32 rfl Try.underlying30 info60 rfl (by decide) (by omega) u327004 x327004_2 (⟨2, (rd_T60 l3 x34_2).f1, 0, (rd_T60 l3 x34_2).f3⟩ : S60) [.int .i64 2, .int .i64 ((rd_T60 l3 x34_2).f1), .int .i64 0, .int .i64 ((rd_T60 l3 x34_2).f3)] (fun k_ => k_ ≠ gb328) (fun _ => False) rfl (by first | (go_simp; done) | (go_simp; rfl)) ?aP (fun _ hk => hk.elim) ?aF ?aO ?aB ?aS ?aL ?_; (case aP => exact k60_mkM _ _ _ (⟨2, (rd_T60 l3 x34_2).f1, 0, (rd_T60 l3 x34_2).f3⟩ : S60)); (case aB => exact (qs HB)); (case aF => exact (fun k_ hk => Kd.freshB (g := gb328) (o := .cells #[.int .i64 ((rd_T60 l3 x34_2).f0), .int .i64 ((rd_T60 l3 x34_2).f1), .int .i64 ((rd_T60 l3 x34_2).f2), .int .i64 ((rd_T60 l3 x34_2).f3)] 60 (0, 0)) (by refine qz ?_; refine blk_far ?_ NB328_326.out _; refine qz ?_; refine blk_far ?_ NB328_326.out _; refine qz ?_; refine blk_far ?_ NB328_326.out _; refine qz ?_; refine blk_far ?_ NB328_326.out _; refine qz ?_; refine blk_put (cs := #[.int .i64 ((rd_T60 l3 x34_2).f0), .int .i64 ((rd_T60 l3 x34_2).f1), .int .i64 ((rd_T60 l3 x34_2).f2), .int .i64 0]) ?_ 3 _ rfl; refine qz ?_; refine blk_put (cs := #[.int .i64 ((rd_T60 l3 x34_2).f0), .int .i64 ((rd_T60 l3 x34_2).f1), .int .i64 0, .int .i64 0]) ?_ 2 _ rfl; refine qz ?_; refine blk_put (cs := #[.int .i64 ((rd_T60 l3 x34_2).f0), .int .i64 0, .int .i64 0, .int .i64 0]) ?_ 1 _ rfl; refine qz ?_; refine blk_put (cs := #[.int .i64 0, .int .i64 0, .int .i64 0, .int .i64 0]) ?_ 0 _ rfl; refine qz ?_; exact BK328.out) k_ hk)); (case aO => exact (by (with_reducible repeat (first | apply Kd.R_alloc | apply Kd.R_drewN | apply Kd.R_drew)); exact Kd.R_mono (Kd.R_far (p := ⟨gb326, 5, none⟩) (Kd.R_far (p := ⟨gb326, 3, none⟩) (Kd.R_far (p := ⟨gb326, 2, none⟩) (Kd.R_far (p := ⟨gb326, 1, none⟩) (Kd.R_far (p := ⟨gb328, 3, none⟩) (Kd.R_far (p := ⟨gb328, 2, none⟩) (Kd.R_far (p := ⟨gb328, 1, none⟩) (Kd.R_far (p := ⟨gb328, 0, none⟩) (Kd.R_types (Kd.R_mono HO_327004.out (fun k_ hk => (⟨hk, hk.2⟩ : _ ∧ k_ ≠ gb328))) BK326.out (by decide)) (fun _ hk => hk.1.2) (.int .i64 ((rd_T60 l3 x34_2).f0))) (fun _ hk => hk.1.2) (.int .i64 ((rd_T60 l3 x34_2).f1))) (fun _ hk => hk.1.2) (.int .i64 ((rd_T60 l3 x34_2).f2))) (fun _ hk => hk.1.2) (.int .i64 ((rd_T60 l3 x34_2).f3))) (fun _ hk => hk.2) (.int .i64 ((rd_T60 l3 x34_2).f1))) (fun _ hk => hk.2) (.int .i64 ((rd_T60 l3 x34_2).f2))) (fun _ hk => hk.2) (.int .i64 ((rd_T60 l3 x34_2).f3))) (fun _ hk => hk.2) (.int .i64 (wrap64 (x327005_2 + 1)))) (fun _ hk => hk.1.1.2))); (case aS => exact (below_size (qs HB))); (case aL => have := LMc88.out; omega); intro v330 w102 ho hb hg hat; rw [← Ny329.out] at ho; replace BK320 := Aside0.mk (blk_grown (g := gb320) (o := .cells #[.int .i64 a0_0, .int .i64 a0_1, .int .i64 a0_2] 34 (0, 0)) (qB BK320) hg (Kd.R_ne HO_327004.out BK320.out (by decide))); replace BK321 := Aside0.mk (blk_grown (g := gb321) (o := .cells #[.int .i64 a2_0, .int .i64 a2_1, .int .i64 a2_2] 48 (0, 0)) (qB BK321) hg (Kd.R_ne HO_327004.out BK321.out (by decide))); replace BK322 := Aside0.mk (blk_grown (g := gb322) (o := .cells #[.bool false, .int .i64 0, .int .i64 0, .int .i64 0, .slice none 0 0, .int .i64 0] 50 (0, 0)) (qB BK322) hg (Kd.R_ne HO_327004.out BK322.out (by decide))); replace BK326 := Aside0.mk (blk_grown (g := gb326) (o := .cells #[.bool true, .int .i64 ((rd_T60 l3 x34_2).f1), .int .i64 ((rd_T60 l3 x34_2).f2), .int .i64 ((rd_T60 l3 x34_2).f3), u327004, .int .i64 (wrap64 (x327005_2 + 1))] 50 (0, 0)) (by refine qz ?_; refine blk_put (cs := #[.bool true, .int .i64 ((rd_T60 l3 x34_2).f1), .int .i64 ((rd_T60 l3 x34_2).f2), .int .i64 ((rd_T60 l3 x34_2).f3), u327004, .int .i64 x327005_2]) ?_ 5 _ rfl; refine qz ?_; refine blk_put (cs := #[.bool true, .int .i64 ((rd_T60 l3 x34_2).f1), .int .i64 ((rd_T60 l3 x34_2).f2), .int .i64 x327003_2, u327004, .int .i64 x327005_2]) ?_ 3 _ rfl; refine qz ?_; refine blk_put (cs := #[.bool true, .int .i64 ((rd_T60 l3 x34_2).f1), .int .i64 x327002_2, .int .i64 x327003_2, u327004, .int .i64 x327005_2]) ?_ 2 _ rfl; refine qz ?_; refine blk_put (cs := #[.bool true, .int .i64 x327001_2, .int .i64 x327002_2, .int .i64 x327003_2, u327004, .int .i64 x327005_2]) ?_ 1 _ rfl; exact qB BK326) hg (Kd.R_ne HO_327004.out BK326.out (by decide))); replace BK328 := Aside0.mk (blk_grown (g := gb328) (o := .cells #[.int .i64 ((rd_T60 l3 x34_2).f0), .int .i64 ((rd_T60 l3 x34_2).f1), .int .i64 ((rd_T60 l3 x34_2).f2), .int .i64 ((rd_T60 l3 x34_2).f3)] 60 (0, 0)) (by refine qz ?_; refine blk_far ?_ NB328_326.out _; refine qz ?_; refine blk_far ?_ NB328_326.out _; refine qz ?_; refine blk_far ?_ NB328_326.out _; refine qz ?_; refine blk_far ?_ NB328_326.out _; refine qz ?_; refine blk_put (cs := #[.int .i64 ((rd_T60 l3 x34_2).f0), .int .i64 ((rd_T60 l3 x34_2).f1), .int .i64 ((rd_T60 l3 x34_2).f2), .int .i64 0]) ?_ 3 _ rfl; refine qz ?_; refine blk_put (cs := #[.int .i64 ((rd_T60 l3 x34_2).f0), .int .i64 ((rd_T60 l3 x34_2).f1), .int .i64 0, .int .i64 0]) ?_ 2 _ rfl; refine qz ?_; refine blk_put (cs := #[.int .i64 ((rd_T60 l3 x34_2).f0), .int .i64 0, .int .i64 0, .int .i64 0]) ?_ 1 _ rfl; refine qz ?_; refine blk_put (cs := #[.int .i64 0, .int .i64 0, .int .i64 0, .int .i64 0]) ?_ 0 _ rfl; refine qz ?_; exact BK328.out) hg (Kd.R_away HO_327004.out (fun _ hk => hk.2))); replace HB := Aside0.mk (hb); have HO331 := Aside0.mk (ho); clear HO_327004; clear ho hb hg hat; obtain ⟨Ao103, co103, eo103⟩ := Kd.R_slice HO331.out; subst eo103; have hcz104_0 := b0 BK326; have hcz104_1 := b1 BK326; have hcz104_2 := b2 BK326; have hcz104_3 := b3 BK326; have hcz104_4 := b4 BK326; have hcz104_5 := b5 BK326; have hfz104_0 := blk_frozen BK326.out 0; have hfz104_1 := blk_frozen BK326.out 1; have hfz104_2 := blk_frozen BK326.out 2; have hfz104_3 := blk_frozen BK326.out 3; have hfz104_4 := blk_frozen BK326.out 4; have hfz104_5 := blk_frozen BK326.out 5))
          repeat (go_quiet (fail); try go_wp2_with (first | ((with_reducible refine gate_dst (N := 12) rfl ?_); refine boxA #[.int .i64 0, .int .i64 0, .int .i64 0, .int .i64 0] 60 ?_; intro gb328 hg w89 hbox hb; replace HO_327004 := Aside0.mk (Kd.R_below (Kd.R_elderB (qr HO_327004) gb328 (Nat.le_of_eq hg.symm)) hb); have BK328 := Aside0.mk (hbox); have GW328 := nge HB hg; have GE328 := nge HB hg; replace HB := bst HB hb; have NB320_328 := nlt BK320 hg; have NB328_320 := ngt BK320 hg; replace BK320 := bkb BK320 hb; have NB321_328 := nlt BK321 hg; have NB328_321 := ngt BK321 hg; replace BK321 := bkb BK321 hb; have NB322_328 := nlt BK322 hg; have NB328_322 := ngt BK322 hg; replace BK322 := bkb BK322 hb; have NB326_328 := nlt BK326 hg; have NB328_326 := ngt BK326 hg; replace BK326 := bkb BK326 hb; clear hb hbox hg; have hnb90 := NB328_320.out; have hnc90 := NB320_328.out; have hnb91 := NB328_321.out; have hnc91 := NB321_328.out; have hnb92 := NB328_322.out; have hnc92 := NB322_328.out; have hnb93 := NB328_326.out; have hnc93 := NB326_328.out; have hcz94_0 := b0 BK328; have hcz94_1 := b1 BK328; have hcz94_2 := b2 BK328; have hcz94_3 := b3 BK328; have hfz94_0 := blk_frozen BK328.out 0; have hfz94_1 := blk_frozen BK328.out 1; have hfz94_2 := blk_frozen BK328.out 2; have hfz94_3 := blk_frozen BK328.out 3; have hnb95 := NB320_321.out; have hnc95 := NB321_320.out; have hnb96 := NB320_322.out; have hnc96 := NB322_320.out; have hnb97 := NB320_326.out; have hnc97 := NB326_320.out; have hcz98_0 := b0 BK320; have hcz98_1 := b1 BK320; have hcz98_2 := b2 BK320; have hfz98_0 := blk_frozen BK320.out 0; have hfz98_1 := blk_frozen BK320.out 1; have hfz98_2 := blk_frozen BK320.out 2; have hnb99 := NB326_321.out; have hnc99 := NB321_326.out; have hnb100 := NB326_322.out; have hnc100 := NB322_326.out; have hcz101_0 := b0 BK326; have hcz101_1 := b1 BK326; have hcz101_2 := b2 BK326; have hcz101_3 := b3 BK326; have hcz101_4 := b4 BK326; have hcz101_5 := b5 BK326; have hfz101_0 := blk_frozen BK326.out 0; have hfz101_1 := blk_frozen BK326.out 1; have hfz101_2 := blk_frozen BK326.out 2; have hfz101_3 := blk_frozen BK326.out 3; have hfz101_4 := blk_frozen BK326.out 4; have hfz101_5 := blk_frozen BK326.out 5) | ((with_reducible refine gate_builtin (b := .append) (xs := #[.tmp 88, .tmp 94]) rfl ?_); at_builtin; refine Kd.R_append k60 (w0 := w) w.heap.size rfl (.tmp 88) (.tmp 94) 30 60 (.agg #[(.int .i64 0), (.int .i64 0), (.int .i64 0), (.int .i64 0)]) 32 rfl Try.underlying30 info60 rfl (by decide) (by omega) u327004 x327004_2 (⟨2, (rd_T60 l3 x34_2).f1, 0, (rd_T60 l3 x34_2).f3⟩ : S60) [.int .i64 2, .int .i64 ((rd_T60 l3 x34_2).f1), .int .i64 0, .int .i64 ((rd_T60 l3 x34_2).f3)] (fun k_ => k_ ≠ gb328) (fun _ => False) rfl (by first | (go_simp; done) | (go_simp; rfl)) ?aP (fun _ hk => hk.elim) ?aF ?aO ?aB ?aS ?aL ?_; (case aP => exact k60_mkM _ _ _ (⟨2, (rd_T60 l3 x34_2).f1, 0, (rd_T60 l3 x34_2).f3⟩ : S60)); (case aB => exact (qs HB)); (case aF => exact (fun k_ hk => Kd.freshB (g := gb328) (o := .cells #[.int .i64 ((rd_T60 l3 x34_2).f0), .int .i64 ((rd_T60 l3 x34_2).f1), .int .i64 ((rd_T60 l3 x34_2).f2), .int .i64 ((rd_T60 l3 x34_2).f3)] 60 (0, 0)) (by refine qz ?_; refine blk_far ?_ NB328_326.out _; refine qz ?_; refine blk_far ?_ NB328_326.out _; refine qz ?_; refine blk_far ?_ NB328_326.out _; refine qz ?_; refine blk_far ?_ NB328_326.out _; refine qz ?_; refine blk_put (cs := #[.int .i64 ((rd_T60 l3 x34_2).f0), .int .i64 ((rd_T60 l3 x34_2).f1), .int .i64 ((rd_T60 l3 x34_2).f2), .int .i64 0]) ?_ 3 _ rfl; refine qz ?_; refine blk_put (cs := #[.int .i64 ((rd_T60 l3 x34_2).f0), .int .i64 ((rd_T60 l3 x34_2).f1), .int .i64 0, .int .i64 0]) ?_ 2 _ rfl; refine qz ?_; refine blk_put (cs := #[.int .i64 ((rd_T60 l3 x34_2).f0), .int .i64 0, .int .i64 0, .int .i64 0]) ?_ 1 _ rfl; refine qz ?_; refine blk_put (cs := #[.int .i64 0, .int .i64 0, .int .i64 0, .int .i64 0]) ?_ 0 _ rfl; refine qz ?_; exact BK328.out) k_ hk)); (case aO => exact (by (with_reducible repeat (first | apply Kd.R_alloc | apply Kd.R_drewN | apply Kd.R_drew)); exact Kd.R_mono (Kd.R_far (p := ⟨gb326, 5, none⟩) (Kd.R_far (p := ⟨gb326, 3, none⟩) (Kd.R_far (p := ⟨gb326, 2, none⟩) (Kd.R_far (p := ⟨gb326, 1, none⟩) (Kd.R_far (p := ⟨gb328, 3, none⟩) (Kd.R_far (p := ⟨gb328, 2, none⟩) (Kd.R_far (p := ⟨gb328, 1, none⟩) (Kd.R_far (p := ⟨gb328, 0, none⟩) (Kd.R_types (Kd.R_mono HO_327004.out (fun k_ hk => (⟨hk, hk.2⟩ : _ ∧ k_ ≠ gb328))) BK326.out (by decide)) (fun _ hk => hk.1.2) (.int .i64 ((rd_T60 l3 x34_2).f0))) (fun _ hk => hk.1.2) (.int .i64 ((rd_T60 l3 x34_2).f1))) (fun _ hk => hk.1.2) (.int .i64 ((rd_T60 l3 x34_2).f2))) (fun _ hk => hk.1.2) (.int .i64 ((rd_T60 l3 x34_2).f3))) (fun _ hk => hk.2) (.int .i64 ((rd_T60 l3 x34_2).f1))) (fun _ hk => hk.2) (.int .i64 ((rd_T60 l3 x34_2).f2))) (fun _ hk => hk.2) (.int .i64 ((rd_T60 l3 x34_2).f3))) (fun _ hk => hk.2) (.int .i64 (wrap64 (x327005_2 + 1)))) (fun _ hk => hk.1.1.2))); (case aS => exact (below_size (qs HB))); (case aL => have := LMc88.out; omega); intro v330 w102 ho hb hg hat; rw [← Ny329.out] at ho; replace BK320 := Aside0.mk (blk_grown (g := gb320) (o := .cells #[.int .i64 a0_0, .int .i64 a0_1, .int .i64 a0_2] 34 (0, 0)) (qB BK320) hg (Kd.R_ne HO_327004.out BK320.out (by decide))); replace BK321 := Aside0.mk (blk_grown (g := gb321) (o := .cells #[.int .i64 a2_0, .int .i64 a2_1, .int .i64 a2_2] 48 (0, 0)) (qB BK321) hg (Kd.R_ne HO_327004.out BK321.out (by decide))); replace BK322 := Aside0.mk (blk_grown (g := gb322) (o := .cells #[.bool false, .int .i64 0, .int .i64 0, .int .i64 0, .slice none 0 0, .int .i64 0] 50 (0, 0)) (qB BK322) hg (Kd.R_ne HO_327004.out BK322.out (by decide))); replace BK326 := Aside0.mk (blk_grown (g := gb326) (o := .cells #[.bool true, .int .i64 ((rd_T60 l3 x34_2).f1), .int .i64 ((rd_T60 l3 x34_2).f2), .int .i64 ((rd_T60 l3 x34_2).f3), u327004, .int .i64 (wrap64 (x327005_2 + 1))] 50 (0, 0)) (by refine qz ?_; refine blk_put (cs := #[.bool true, .int .i64 ((rd_T60 l3 x34_2).f1), .int .i64 ((rd_T60 l3 x34_2).f2), .int .i64 ((rd_T60 l3 x34_2).f3), u327004, .int .i64 x327005_2]) ?_ 5 _ rfl; refine qz ?_; refine blk_put (cs := #[.bool true, .int .i64 ((rd_T60 l3 x34_2).f1), .int .i64 ((rd_T60 l3 x34_2).f2), .int .i64 x327003_2, u327004, .int .i64 x327005_2]) ?_ 3 _ rfl; refine qz ?_; refine blk_put (cs := #[.bool true, .int .i64 ((rd_T60 l3 x34_2).f1), .int .i64 x327002_2, .int .i64 x327003_2, u327004, .int .i64 x327005_2]) ?_ 2 _ rfl; refine qz ?_; refine blk_put (cs := #[.bool true, .int .i64 x327001_2, .int .i64 x327002_2, .int .i64 x327003_2, u327004, .int .i64 x327005_2]) ?_ 1 _ rfl; exact qB BK326) hg (Kd.R_ne HO_327004.out BK326.out (by decide))); replace BK328 := Aside0.mk (blk_grown (g := gb328) (o := .cells #[.int .i64 ((rd_T60 l3 x34_2).f0), .int .i64 ((rd_T60 l3 x34_2).f1), .int .i64 ((rd_T60 l3 x34_2).f2), .int .i64 ((rd_T60 l3 x34_2).f3)] 60 (0, 0)) (by refine qz ?_; refine blk_far ?_ NB328_326.out _; refine qz ?_; refine blk_far ?_ NB328_326.out _; refine qz ?_; refine blk_far ?_ NB328_326.out _; refine qz ?_; refine blk_far ?_ NB328_326.out _; refine qz ?_; refine blk_put (cs := #[.int .i64 ((rd_T60 l3 x34_2).f0), .int .i64 ((rd_T60 l3 x34_2).f1), .int .i64 ((rd_T60 l3 x34_2).f2), .int .i64 0]) ?_ 3 _ rfl; refine qz ?_; refine blk_put (cs := #[.int .i64 ((rd_T60 l3 x34_2).f0), .int .i64 ((rd_T60 l3 x34_2).f1), .int .i64 0, .int .i64 0]) ?_ 2 _ rfl; refine qz ?_; refine blk_put (cs := #[.int .i64 ((rd_T60 l3 x34_2).f0), .int .i64 0, .int .i64 0, .int .i64 0]) ?_ 1 _ rfl; refine qz ?_; refine blk_put (cs := #[.int .i64 0, .int .i64 0, .int .i64 0, .int .i64 0]) ?_ 0 _ rfl; refine qz ?_; exact BK328.out) hg (Kd.R_away HO_327004.out (fun _ hk => hk.2))); replace HB := Aside0.mk (hb); have HO331 := Aside0.mk (ho); clear HO_327004; clear ho hb hg hat; obtain ⟨Ao103, co103, eo103⟩ := Kd.R_slice HO331.out; subst eo103; have hcz104_0 := b0 BK326; have hcz104_1 := b1 BK326; have hcz104_2 := b2 BK326; have hcz104_3 := b3 BK326; have hcz104_4 := b4 BK326; have hcz104_5 := b5 BK326; have hfz104_0 := blk_frozen BK326.out 0; have hfz104_1 := blk_frozen BK326.out 1; have hfz104_2 := blk_frozen BK326.out 2; have hfz104_3 := blk_frozen BK326.out 3; have hfz104_4 := blk_frozen BK326.out 4; have hfz104_5 := blk_frozen BK326.out 5)))
          go_roundg k2
          case measure => have := HJ4.out; have := HK2.out; omega
          case rel => exact ⟨(wrap64 (x34_2 + 1)), ((rd_T60 l3 x34_2).f1), ((rd_T60 l3 x34_2).f2), ((rd_T60 l3 x34_2).f3), (y329), (wrap64 (x327005_2 + 1)), (.slice Ao103 y329.length co103), (by first | rfl | (simp; done) | (simp [*]; done)), H', ⟨by have := HJ4.out; have := HK2.out; omega⟩, ⟨by (with_reducible repeat (first | apply Kd.R_alloc | apply Kd.R_drewN | apply Kd.R_drew)); exact Kd.R_mono (Kd.R_far (p := ⟨gb326, 4, none⟩) (Kd.R_types HO331.out BK326.out (by decide)) (fun _ hk => hk.2) (.slice Ao103 y329.length co103)) (fun _ hk => trivial)⟩, ⟨qB BK320⟩, ⟨qB BK321⟩, ⟨qB BK322⟩, ⟨by refine qz ?_; refine blk_put (cs := #[.bool true, .int .i64 ((rd_T60 l3 x34_2).f1), .int .i64 ((rd_T60 l3 x34_2).f2), .int .i64 ((rd_T60 l3 x34_2).f3), u327004, .int .i64 (wrap64 (x327005_2 + 1))]) ?_ 4 _ rfl; refine qz ?_; exact BK326.out⟩, ⟨(qs HB)⟩⟩
         rw [if_neg c88] at H
         exact absurd H (by simp)
        rw [if_neg c48] at H
        have c48b0 : (((rd_T60 l3 x34_2).f0) == 1) = false := beq_eq_false_iff_ne.mpr c48
        have c48b1 : (((rd_T60 l3 x34_2).f0) != 1) = true := bne_iff_ne.mpr c48
        have H' := Aside0.mk H
        clear H
        have p327 : 0 ≤ (x34_2 : Int) := of_decide_eq_true (by assumption)
        have q327 : x34_2 < (l3.length : Int) := of_decide_eq_true (by assumption)
        obtain ⟨ad327, e327, hx327_0, hx327_1, hx327_2, hx327_3⟩ := at_T60 HR3.out x34_2 p327 q327
        cases e327
        replace hx327_0 := (HB.out.cell (World.block_lt_of_cell? w _ hx327_0)).trans hx327_0
        replace hx327_1 := (HB.out.cell (World.block_lt_of_cell? w _ hx327_1)).trans hx327_1
        replace hx327_2 := (HB.out.cell (World.block_lt_of_cell? w _ hx327_2)).trans hx327_2
        replace hx327_3 := (HB.out.cell (World.block_lt_of_cell? w _ hx327_3)).trans hx327_3
        replace p327 := eq_true p327
        replace q327 := eq_true q327
        go_wp2_with (first | ((with_reducible refine gate_dst (N := 12) rfl ?_); refine boxA #[.int .i64 0, .int .i64 0, .int .i64 0, .int .i64 0] 60 ?_; intro gb328 hg w105 hbox hb; replace HO_327004 := Aside0.mk (Kd.R_below (Kd.R_elderB (qr HO_327004) gb328 (Nat.le_of_eq hg.symm)) hb); have BK328 := Aside0.mk (hbox); have GW328 := nge HB hg; have GE328 := nge HB hg; replace HB := bst HB hb; have NB320_328 := nlt BK320 hg; have NB328_320 := ngt BK320 hg; replace BK320 := bkb BK320 hb; have NB321_328 := nlt BK321 hg; have NB328_321 := ngt BK321 hg; replace BK321 := bkb BK321 hb; have NB322_328 := nlt BK322 hg; have NB328_322 := ngt BK322 hg; replace BK322 := bkb BK322 hb; have NB326_328 := nlt BK326 hg; have NB328_326 := ngt BK326 hg; replace BK326 := bkb BK326 hb; clear hb hbox hg; have hnb106 := NB328_320.out; have hnc106 := NB320_328.out; have hnb107 := NB328_321.out; have hnc107 := NB321_328.out; have hnb108 := NB328_322.out; have hnc108 := NB322_328.out; have hnb109 := NB328_326.out; have hnc109 := NB326_328.out; have hcz110_0 := b0 BK328; have hcz110_1 := b1 BK328; have hcz110_2 := b2 BK328; have hcz110_3 := b3 BK328; have hfz110_0 := blk_frozen BK328.out 0; have hfz110_1 := blk_frozen BK328.out 1; have hfz110_2 := blk_frozen BK328.out 2; have hfz110_3 := blk_frozen BK328.out 3))
        repeat (go_quiet (fail); try go_wp2_with (first | ((with_reducible refine gate_dst (N := 12) rfl ?_); refine boxA #[.int .i64 0, .int .i64 0, .int .i64 0, .int .i64 0] 60 ?_; intro gb328 hg w105 hbox hb; replace HO_327004 := Aside0.mk (Kd.R_below (Kd.R_elderB (qr HO_327004) gb328 (Nat.le_of_eq hg.symm)) hb); have BK328 := Aside0.mk (hbox); have GW328 := nge HB hg; have GE328 := nge HB hg; replace HB := bst HB hb; have NB320_328 := nlt BK320 hg; have NB328_320 := ngt BK320 hg; replace BK320 := bkb BK320 hb; have NB321_328 := nlt BK321 hg; have NB328_321 := ngt BK321 hg; replace BK321 := bkb BK321 hb; have NB322_328 := nlt BK322 hg; have NB328_322 := ngt BK322 hg; replace BK322 := bkb BK322 hb; have NB326_328 := nlt BK326 hg; have NB328_326 := ngt BK326 hg; replace BK326 := bkb BK326 hb; clear hb hbox hg; have hnb106 := NB328_320.out; have hnc106 := NB320_328.out; have hnb107 := NB328_321.out; have hnc107 := NB321_328.out; have hnb108 := NB328_322.out; have hnc108 := NB322_328.out; have hnb109 := NB328_326.out; have hnc109 := NB326_328.out; have hcz110_0 := b0 BK328; have hcz110_1 := b1 BK328; have hcz110_2 := b2 BK328; have hcz110_3 := b3 BK328; have hfz110_0 := blk_frozen BK328.out 0; have hfz110_1 := blk_frozen BK328.out 1; have hfz110_2 := blk_frozen BK328.out 2; have hfz110_3 := blk_frozen BK328.out 3)))
        go_roundg k2
        case measure => have := HJ4.out; have := HK2.out; omega
        case rel => exact ⟨(wrap64 (x34_2 + 1)), (x327001_2), (x327002_2), (x327003_2), (x327004_2), (x327005_2), (u327004), (by first | rfl | (simp; done) | (simp [*]; done)), H', ⟨by have := HJ4.out; have := HK2.out; omega⟩, ⟨by (with_reducible repeat (first | apply Kd.R_alloc | apply Kd.R_drewN | apply Kd.R_drew)); exact Kd.R_mono (Kd.R_far (p := ⟨gb328, 3, none⟩) (Kd.R_far (p := ⟨gb328, 2, none⟩) (Kd.R_far (p := ⟨gb328, 1, none⟩) (Kd.R_far (p := ⟨gb328, 0, none⟩) (Kd.R_mono HO_327004.out (fun k_ hk => (⟨hk, hk.2⟩ : _ ∧ k_ ≠ gb328))) (fun _ hk => hk.2) (.int .i64 ((rd_T60 l3 x34_2).f0))) (fun _ hk => hk.2) (.int .i64 ((rd_T60 l3 x34_2).f1))) (fun _ hk => hk.2) (.int .i64 ((rd_T60 l3 x34_2).f2))) (fun _ hk => hk.2) (.int .i64 ((rd_T60 l3 x34_2).f3))) (fun _ hk => trivial)⟩, ⟨qB BK320⟩, ⟨qB BK321⟩, ⟨qB BK322⟩, ⟨qB BK326⟩, ⟨(qs HB)⟩⟩
       rw [if_neg c47] at H
       exact absurd H (by simp)
      rw [if_neg c46] at H
      exact absurd H (by simp)
     rw [if_neg c45] at H
     have c45b0 : decide (x34_2 < (l3.length : Int)) = false := decide_eq_false c45
     clear c45
     simp only [Option.some.injEq, Prod.mk.injEq] at H
     obtain ⟨rfl, rfl, rfl, rfl, rfl, rfl⟩ := H
     have hnb111 := NB326_320.out
     have hnc111 := NB320_326.out
     have hnb112 := NB326_321.out
     have hnc112 := NB321_326.out
     have hnb113 := NB326_322.out
     have hnc113 := NB322_326.out
     have hcz114_0 := b0 BK326
     have hcz114_1 := b1 BK326
     have hcz114_2 := b2 BK326
     have hcz114_3 := b3 BK326
     have hcz114_4 := b4 BK326
     have hcz114_5 := b5 BK326
     have hfz114_0 := blk_frozen BK326.out 0
     have hfz114_1 := blk_frozen BK326.out 1
     have hfz114_2 := blk_frozen BK326.out 2
     have hfz114_3 := blk_frozen BK326.out 3
     have hfz114_4 := blk_frozen BK326.out 4
     have hfz114_5 := blk_frozen BK326.out 5
     have hnb115 := NB322_320.out
     have hnc115 := NB320_322.out
     have hnb116 := NB322_321.out
     have hnc116 := NB321_322.out
     have hcz117_0 := b0 BK322
     have hcz117_1 := b1 BK322
     have hcz117_2 := b2 BK322
     have hcz117_3 := b3 BK322
     have hcz117_4 := b4 BK322
     have hcz117_5 := b5 BK322
     have hfz117_0 := blk_frozen BK322.out 0
     have hfz117_1 := blk_frozen BK322.out 1
     have hfz117_2 := blk_frozen BK322.out 2
     have hfz117_3 := blk_frozen BK322.out 3
     have hfz117_4 := blk_frozen BK322.out 4
     have hfz117_5 := blk_frozen BK322.out 5
     obtain ⟨Ao118, co118, eo118⟩ := Kd.R_slice HO_327004.out
     subst eo118
     go_wp2
     repeat (go_quiet (fail); try go_wp2)
     refine bodyPost_ret (results_cell_row rfl _ _ gb322 50 #[.bool true, .int .i64 x327001_2, .int .i64 x327002_2, .int .i64 x327003_2, .slice Ao118 x327004_2.length co118, .int .i64 x327005_2] (0, 0) _ rfl (by refine qz ?_; refine blk_put (cs := #[.bool true, .int .i64 x327001_2, .int .i64 x327002_2, .int .i64 x327003_2, .slice Ao118 x327004_2.length co118, .int .i64 0]) ?_ 5 _ rfl; refine qz ?_; refine blk_put (cs := #[.bool true, .int .i64 x327001_2, .int .i64 x327002_2, .int .i64 x327003_2, .slice none 0 0, .int .i64 0]) ?_ 4 _ rfl; refine qz ?_; refine blk_put (cs := #[.bool true, .int .i64 x327001_2, .int .i64 x327002_2, .int .i64 0, .slice none 0 0, .int .i64 0]) ?_ 3 _ rfl; refine qz ?_; refine blk_put (cs := #[.bool true, .int .i64 x327001_2, .int .i64 0, .int .i64 0, .slice none 0 0, .int .i64 0]) ?_ 2 _ rfl; refine qz ?_; refine blk_put (cs := #[.bool true, .int .i64 0, .int .i64 0, .int .i64 0, .slice none 0 0, .int .i64 0]) ?_ 1 _ rfl; refine qz ?_; refine blk_put (cs := #[.bool false, .int .i64 0, .int .i64 0, .int .i64 0, .slice none 0 0, .int .i64 0]) ?_ 0 _ rfl; refine qz ?_; exact BK322.out) Try.underlying50 rfl (by kernel_rfl)) rfl ?_
     exact ⟨_, by first | rfl | (simp [*, errW_none, errW_some] <;> rfl), by (with_reducible repeat (first | apply Kd.R_alloc | apply Kd.R_drewN | apply Kd.R_drew)); exact Kd.R_mono (Kd.R_far (p := ⟨gb322, 5, none⟩) (Kd.R_far (p := ⟨gb322, 4, none⟩) (Kd.R_far (p := ⟨gb322, 3, none⟩) (Kd.R_far (p := ⟨gb322, 2, none⟩) (Kd.R_far (p := ⟨gb322, 1, none⟩) (Kd.R_far (p := ⟨gb322, 0, none⟩) (Kd.R_types HO_327004.out BK322.out (by decide)) (fun _ hk => hk.2) (.bool true)) (fun _ hk => hk.2) (.int .i64 x327001_2)) (fun _ hk => hk.2) (.int .i64 x327002_2)) (fun _ hk => hk.2) (.int .i64 x327003_2)) (fun _ hk => hk.2) (.slice Ao118 x327004_2.length co118)) (fun _ hk => hk.2) (.int .i64 x327005_2)) (fun _ hk => trivial), (qs HB)⟩
def impl_TrainOk.f (a0 : Int) (a1_0 : Int) (a1_1 : Int) (a1_2 : Int) : Option (Bool) := (impl_in.f a0 0 1000000000).bind fun t336 => (if t336 = true then ((impl_in.f a1_0 0 1000000000).bind fun t337 => (if t337 = true then ((impl_in.f a1_2 0 a0).bind fun t338 => (some t338)) else (some false))) else (some false))
set_option maxHeartbeats 8000000 in
set_option maxRecDepth 100000 in
theorem impl_TrainOk.calls (a0 : Int) (a1_0 : Int) (a1_1 : Int) (a1_2 : Int) (r : Bool) (w : World) (h : impl_TrainOk.f a0 a1_0 a1_1 a1_2 = some r) :
  Calls Try.prog 66 #[.int .i64 a0, .agg #[.int .i64 a1_0, .int .i64 a1_1, .int .i64 a1_2]] w fun e w' => e = .returned (.bool r) ∧ Below w.heap.size w w' := by
 have hu48 := Try.underlying48
 have HB := Aside0.mk (Below.refl w.heap.size w)
 have H : ((impl_in.f a0 0 1000000000).bind fun t336 => (if t336 = true then ((impl_in.f a1_0 0 1000000000).bind fun t337 => (if t337 = true then ((impl_in.f a1_2 0 a0).bind fun t338 => (some t338)) else (some false))) else (some false))) = some r := h
 clear h
 replace H := Option.bind_eq_some_iff.mp H
 obtain ⟨t336, A30, H⟩ := H
 replace H : (if t336 = true then ((impl_in.f a1_0 0 1000000000).bind fun t337 => (if t337 = true then ((impl_in.f a1_2 0 a0).bind fun t338 => (some t338)) else (some false))) else (some false)) = some r := H
 have A3 := Aside0.mk A30
 clear A30
 by_cases c4 : t336 = true
 ·subst c4
  have H1 : ((impl_in.f a1_0 0 1000000000).bind fun t337 => (if t337 = true then ((impl_in.f a1_2 0 a0).bind fun t338 => (some t338)) else (some false))) = some r := by rw [if_pos rfl] at H; exact H
  clear H; have H := H1; clear H1
  replace H := Option.bind_eq_some_iff.mp H
  obtain ⟨t337, A50, H⟩ := H
  replace H : (if t337 = true then ((impl_in.f a1_2 0 a0).bind fun t338 => (some t338)) else (some false)) = some r := H
  have A5 := Aside0.mk A50
  clear A50
  by_cases c6 : t337 = true
  ·subst c6
   have H1 : ((impl_in.f a1_2 0 a0).bind fun t338 => (some t338)) = some r := by rw [if_pos rfl] at H; exact H
   clear H; have H := H1; clear H1
   replace H := Option.bind_eq_some_iff.mp H
   obtain ⟨t338, A70, H⟩ := H
   replace H : (some t338) = some r := H
   have A7 := Aside0.mk A70
   clear A70
   obtain rfl := Option.some.inj H
   go_enter Try.func66, Try.ntmps66
   go_wp2_with (first | ((with_reducible refine gate_dst (N := 3) rfl ?_); refine boxA #[.int .i64 a1_0, .int .i64 a1_1, .int .i64 a1_2] 48 ?_; intro gb335 hg w8 hbox hb; have BK335 := Aside0.mk (hbox); have GW335 := nge HB hg; have GE335 := nge HB hg; replace HB := bst HB hb; clear hb hbox hg) | ((with_reducible refine gate_callee (f := 95) rfl ?_); refine goesLA (some 6) rfl Try.func95 #[.int .i64 a0, .int .i64 0, .int .i64 1000000000] ?_; (with_reducible refine (impl_in.calls a0 0 1000000000 true _ A3.out).mono ?_); rintro e w' ⟨rfl, ⟨nd, rfl⟩⟩; refine ⟨_, rfl, ?_⟩; have hcz9_0 := b0 BK335; have hcz9_1 := b1 BK335; have hcz9_2 := b2 BK335; have hfz9_0 := blk_frozen BK335.out 0; have hfz9_1 := blk_frozen BK335.out 1; have hfz9_2 := blk_frozen BK335.out 2) | (go_at_call 95; (with_reducible refine (impl_in.calls a1_0 0 1000000000 true _ A5.out).mono ?_); rintro e w' ⟨rfl, ⟨nd, rfl⟩⟩) | (go_at_call 95; (with_reducible refine (impl_in.calls a1_2 0 a0 t338 _ A7.out).mono ?_); rintro e w' ⟨rfl, ⟨nd, rfl⟩⟩))
   go_ret
   exact ⟨by first | rfl | (simp [*, errW_none, errW_some] <;> rfl), (qs HB)⟩
  replace c6 := Bool.eq_false_iff.mpr c6
  subst c6
  have H1 : (some false) = some r := by rw [if_neg (show ¬ (false = true) by decide)] at H; exact H
  clear H; have H := H1; clear H1
  obtain rfl := Option.some.inj H
  go_enter Try.func66, Try.ntmps66
  go_wp2_with (first | ((with_reducible refine gate_dst (N := 3) rfl ?_); refine boxA #[.int .i64 a1_0, .int .i64 a1_1, .int .i64 a1_2] 48 ?_; intro gb335 hg w10 hbox hb; have BK335 := Aside0.mk (hbox); have GW335 := nge HB hg; have GE335 := nge HB hg; replace HB := bst HB hb; clear hb hbox hg) | ((with_reducible refine gate_callee (f := 95) rfl ?_); refine goesLA (some 6) rfl Try.func95 #[.int .i64 a0, .int .i64 0, .int .i64 1000000000] ?_; (with_reducible refine (impl_in.calls a0 0 1000000000 true _ A3.out).mono ?_); rintro e w' ⟨rfl, ⟨nd, rfl⟩⟩; refine ⟨_, rfl, ?_⟩; have hcz11_0 := b0 BK335; have hcz11_1 := b1 BK335; have hcz11_2 := b2 BK335; have hfz11_0 := blk_frozen BK335.out 0; have hfz11_1 := blk_frozen BK335.out 1; have hfz11_2 := blk_frozen BK335.out 2) | (go_at_call 95; (with_reducible refine (impl_in.calls a1_0 0 1000000000 false _ A5.out).mono ?_); rintro e w' ⟨rfl, ⟨nd, rfl⟩⟩))
  go_ret
  exact ⟨by first | rfl | (simp [*, errW_none, errW_some] <;> rfl), (qs HB)⟩
 replace c4 := Bool.eq_false_iff.mpr c4
 subst c4
 have H1 : (some false) = some r := by rw [if_neg (show ¬ (false = true) by decide)] at H; exact H
 clear H; have H := H1; clear H1
 obtain rfl := Option.some.inj H
 go_enter Try.func66, Try.ntmps66
 go_wp2_with (first | ((with_reducible refine gate_dst (N := 3) rfl ?_); refine boxA #[.int .i64 a1_0, .int .i64 a1_1, .int .i64 a1_2] 48 ?_; intro gb335 hg w12 hbox hb; have BK335 := Aside0.mk (hbox); have GW335 := nge HB hg; have GE335 := nge HB hg; replace HB := bst HB hb; clear hb hbox hg) | ((with_reducible refine gate_callee (f := 95) rfl ?_); refine goesLA (some 6) rfl Try.func95 #[.int .i64 a0, .int .i64 0, .int .i64 1000000000] ?_; (with_reducible refine (impl_in.calls a0 0 1000000000 false _ A3.out).mono ?_); rintro e w' ⟨rfl, ⟨nd, rfl⟩⟩; refine ⟨_, rfl, ?_⟩))
 go_ret
 exact ⟨by first | rfl | (simp [*, errW_none, errW_some] <;> rfl), (qs HB)⟩
end Go.Proofs.Ytndffnacbfdnoaa.PAll
