-- Lines of PAllx22 that this claim uses.
import Derived.Test.YtndffnacbfdnoaaRUSqd
import Derived.Test.YtndffnacbfdnoaaRUSq
import Derived.Test.YtndffnacbfdnoaaRUPAllx0
import Derived.Test.YtndffnacbfdnoaaRUPAllx7
import Derived.Test.YtndffnacbfdnoaaRUPAllx9
import Derived.Test.YtndffnacbfdnoaaRUPAllx13
namespace Go.Proofs.Ytndffnacbfdnoaa.PAll
open Go.RowKit Go.Proofs.YtndffnacbfdnoaaW.PrintWords Go.Proofs.YtndffnacbfdnoaaW.PrintLast Go.Proofs.YtndffnacbfdnoaaW.PrintMore
attribute [local go_sem] max2_int min2_int max_two min_two max_three min_three max_four min_four
set_option linter.unusedVariables false
set_option linter.unusedSimpArgs false
mutual
def impl_runOk.j0 : Nat → List (S84) → List (List Int) → Int → Bool → Option (Bool)
 | 0, _, _, _, _ => none
 | k + 1, x1, x2, x3, x33 => if x33 = true then (some false) else (impl_runOk.l0 k x2 x3 1 x1 (x1.length : Int) 0)
def impl_runOk.l0 : Nat → List (List Int) → Int → Int → List (S84) → Int → Int → Option (Bool)
 | 0, _, _, _, _, _, _ => none
 | k + 1, x2, x3, x9, x34, x35, x36 => if x36 < x35 then (if 0 ≤ x36 then (if x36 < (x34.length : Int) then ((impl_in.f ((rd_T84 x34 x36).f0) x9 x3).bind fun t851 => (if t851 = true then (impl_runOk.l0 k x2 x3 ((rd_T84 x34 x36).f0) x34 x35 (wrap64 (x36 + 1))) else (some false))) else (none)) else (none)) else (impl_runOk.l1 k x2 (x2.length : Int) 0)
def impl_runOk.l1 : Nat → List (List Int) → Int → Int → Option (Bool)
 | 0, _, _, _ => none
 | k + 1, x49, x50, x51 => if x51 < x50 then (if 0 ≤ x51 then (if x51 < (x49.length : Int) then (if ((rd_L5 x49 x51).length : Int) > 10 then (some false) else (impl_runOk.l2 k x49 x50 x51 (rd_L5 x49 x51) ((rd_L5 x49 x51).length : Int) 0)) else (none)) else (none)) else (some true)
def impl_runOk.l2 : Nat → List (List Int) → Int → Int → List Int → Int → Int → Option (Bool)
 | 0, _, _, _, _, _, _ => none
 | k + 1, x49, x50, x51, x58, x59, x60 => if x60 < x59 then (if 0 ≤ x60 then (if x60 < (x58.length : Int) then ((impl_in.f (rd x58 x60) 1 1000).bind fun t854 => (if t854 = true then (impl_runOk.l2 k x49 x50 x51 x58 x59 (wrap64 (x60 + 1))) else (some false))) else (none)) else (none)) else (impl_runOk.l1 k x49 x50 (wrap64 (x51 + 1)))
end
def impl_runOk.f (k : Nat) (a0_0 : Int) (a0_1 : Int) (a0_2 : Int) (l1 : List (S84)) (l2 : List (List Int)) (a3 : Int) : Option (Bool) := (impl_RulesOk.f a0_0 a0_1 a0_2).bind fun t847 => (if t847 = true then ((impl_in.f a3 0 2000).bind fun t848 => (if t848 = true then (if (l1.length : Int) > 200 then (impl_runOk.j0 k l1 l2 a3 true) else (impl_runOk.j0 k l1 l2 a3 (decide ((l2.length : Int) > 5000)))) else (impl_runOk.j0 k l1 l2 a3 true))) else (impl_runOk.j0 k l1 l2 a3 true))
set_option maxHeartbeats 8000000 in
set_option maxRecDepth 100000 in
theorem impl_runOk.calls (k : Nat) (a0_0 : Int) (a0_1 : Int) (a0_2 : Int) (A1 : Option Addr) (c1 : Nat) (l1 : List (S84)) (A2 : Option Addr) (c2 : Nat) (l2 : List (List Int)) (a3 : Int) (r : Bool) (w : World) (hr1 : Kd.C k84 w A1 l1.length l1) (hc1 : l1.length ≤ c1) (hr2 : Kd.C (Kd.slice 3 (Kd.int .i64)) w A2 l2.length l2) (hc2 : l2.length ≤ c2) (h : impl_runOk.f k a0_0 a0_1 a0_2 l1 l2 a3 = some r) :
  Calls Try.prog 84 #[.agg #[.int .i64 a0_0, .int .i64 a0_1, .int .i64 a0_2], .slice A1 l1.length c1, .slice A2 l2.length c2, .int .i64 a3] w fun e w' => e = .returned (.bool r) ∧ Below w.heap.size w w' := by
 have hu34 := Try.underlying34
 have hu84 := Try.underlying84
 have HR1 := Aside0.mk hr1
 have HC1 := Aside0.mk hc1
 clear hr1 hc1
 have HR2 := Aside0.mk hr2
 have HC2 := Aside0.mk hc2
 clear hr2 hc2
 have HB := Aside0.mk (Below.refl w.heap.size w)
 have H : ((impl_RulesOk.f a0_0 a0_1 a0_2).bind fun t847 => (if t847 = true then ((impl_in.f a3 0 2000).bind fun t848 => (if t848 = true then (if (l1.length : Int) > 200 then (impl_runOk.j0 k l1 l2 a3 true) else (impl_runOk.j0 k l1 l2 a3 (decide ((l2.length : Int) > 5000)))) else (impl_runOk.j0 k l1 l2 a3 true))) else (impl_runOk.j0 k l1 l2 a3 true))) = some r := h
 clear h
 have HC5 := Aside0.mk H
 clear H
 go_enter Try.func84, Try.ntmps84
 go_upto_region 1 with (first | ((with_reducible refine gate_dst (N := 4) rfl ?_); (try (refine gate_guard (by rfl) ?_; dsimp only)); refine boxA #[.int .i64 a0_0, .int .i64 a0_1, .int .i64 a0_2] 34 ?_; intro gb846 hg w6 hbox hb; have BK846 := Aside0.mk (hbox); have GW846 := nge HB hg; have GE846 := nge HB hg; replace HB := bst HB hb; clear hb hbox hg))
 (try simp only [Act.put, List.setIfInBounds_toArray, List.set_cons_zero, List.set_cons_succ])
 go_cut [33] (fun v33 wc => ∃ (kq : Nat) (x33_4 : Bool), v33 = .bool x33_4 ∧ Aside0 (impl_runOk.j0 kq l1 l2 a3 x33_4 = some r) ∧ Aside0 (kq ≤ k) ∧ Aside0 (wc.heap[gb846]? = some (.cells #[.int .i64 a0_0, .int .i64 a0_1, .int .i64 a0_2] 34 (0, 0))) ∧ Aside0 (Below w.heap.size w wc))
 case first =>
  have H := HC5.out
  clear HC5
  replace H := Option.bind_eq_some_iff.mp H
  obtain ⟨t847, A70, H⟩ := H
  replace H : (if t847 = true then ((impl_in.f a3 0 2000).bind fun t848 => (if t848 = true then (if (l1.length : Int) > 200 then (impl_runOk.j0 k l1 l2 a3 true) else (impl_runOk.j0 k l1 l2 a3 (decide ((l2.length : Int) > 5000)))) else (impl_runOk.j0 k l1 l2 a3 true))) else (impl_runOk.j0 k l1 l2 a3 true)) = some r := H
  have A7 := Aside0.mk A70
  clear A70
  by_cases c8 : t847 = true
  ·subst c8
   have H1 : ((impl_in.f a3 0 2000).bind fun t848 => (if t848 = true then (if (l1.length : Int) > 200 then (impl_runOk.j0 k l1 l2 a3 true) else (impl_runOk.j0 k l1 l2 a3 (decide ((l2.length : Int) > 5000)))) else (impl_runOk.j0 k l1 l2 a3 true))) = some r := by rw [if_pos rfl] at H; exact H
   clear H; have H := H1; clear H1
   replace H := Option.bind_eq_some_iff.mp H
   obtain ⟨t848, A90, H⟩ := H
   replace H : (if t848 = true then (if (l1.length : Int) > 200 then (impl_runOk.j0 k l1 l2 a3 true) else (impl_runOk.j0 k l1 l2 a3 (decide ((l2.length : Int) > 5000)))) else (impl_runOk.j0 k l1 l2 a3 true)) = some r := H
   have A9 := Aside0.mk A90
   clear A90
   by_cases c10 : t848 = true
   ·subst c10
    have H1 : (if (l1.length : Int) > 200 then (impl_runOk.j0 k l1 l2 a3 true) else (impl_runOk.j0 k l1 l2 a3 (decide ((l2.length : Int) > 5000)))) = some r := by rw [if_pos rfl] at H; exact H
    clear H; have H := H1; clear H1
    by_cases c11 : (l1.length : Int) > 200
    ·rw [if_pos c11] at H
     have c11b0 : decide (200 < (l1.length : Int)) = true := decide_eq_true c11
     have c11b1 : decide (200 < l1.length) = true := decide_eq_true (by omega)
     clear c11
     (first | rw [c11b0] | (simp only [i64_w, i32_w]; rw [c11b0]) | skip)
     have H' := Aside0.mk H
     clear H
     have hcz12_0 := b0 BK846
     have hcz12_1 := b1 BK846
     have hcz12_2 := b2 BK846
     have hfz12_0 := blk_frozen BK846.out 0
     have hfz12_1 := blk_frozen BK846.out 1
     have hfz12_2 := blk_frozen BK846.out 2
     go_wp2_with (first | ((with_reducible refine gate_callee (f := 58) rfl ?_); refine goesLA (some 17) rfl Try.func58 #[.agg #[.int .i64 a0_0, .int .i64 a0_1, .int .i64 a0_2]] ?_; (with_reducible refine (impl_RulesOk.calls a0_0 a0_1 a0_2 true _ A7.out).mono ?_); rintro e w13 ⟨rfl, hb⟩; refine ⟨_, rfl, ?_⟩; replace BK846 := bkb BK846 hb; replace HB := bst HB hb; clear hb) | (go_at_call 95; (with_reducible refine (impl_in.calls a3 0 2000 true _ A9.out).mono ?_); rintro e w' ⟨rfl, ⟨nd, rfl⟩⟩))
     go_meet
     case rel => exact ⟨_, (true), (by first | rfl | (simp; done) | (simp [*]; done)), H', ⟨by first | omega | exact Nat.le_refl _⟩, ⟨qb BK846⟩, ⟨(qs HB)⟩⟩
    rw [if_neg c11] at H
    have c11b0 : decide (200 < (l1.length : Int)) = false := decide_eq_false c11
    have c11b1 : decide (200 < l1.length) = false := decide_eq_false (by omega)
    clear c11
    (first | rw [c11b0] | (simp only [i64_w, i32_w]; rw [c11b0]) | skip)
    have H' := Aside0.mk H
    clear H
    have hcz14_0 := b0 BK846
    have hcz14_1 := b1 BK846
    have hcz14_2 := b2 BK846
    have hfz14_0 := blk_frozen BK846.out 0
    have hfz14_1 := blk_frozen BK846.out 1
    have hfz14_2 := blk_frozen BK846.out 2
    go_wp2_with (first | ((with_reducible refine gate_callee (f := 58) rfl ?_); refine goesLA (some 17) rfl Try.func58 #[.agg #[.int .i64 a0_0, .int .i64 a0_1, .int .i64 a0_2]] ?_; (with_reducible refine (impl_RulesOk.calls a0_0 a0_1 a0_2 true _ A7.out).mono ?_); rintro e w15 ⟨rfl, hb⟩; refine ⟨_, rfl, ?_⟩; replace BK846 := bkb BK846 hb; replace HB := bst HB hb; clear hb) | (go_at_call 95; (with_reducible refine (impl_in.calls a3 0 2000 true _ A9.out).mono ?_); rintro e w' ⟨rfl, ⟨nd, rfl⟩⟩))
    go_meet
    case rel => exact ⟨_, (decide ((l2.length : Int) > 5000)), (by first | rfl | (simp; done) | (simp [*]; done)), H', ⟨by first | omega | exact Nat.le_refl _⟩, ⟨qb BK846⟩, ⟨(qs HB)⟩⟩
   replace c10 := Bool.eq_false_iff.mpr c10
   subst c10
   have H1 : (impl_runOk.j0 k l1 l2 a3 true) = some r := by rw [if_neg (show ¬ (false = true) by decide)] at H; exact H
   clear H; have H := H1; clear H1
   have H' := Aside0.mk H
   clear H
   have hcz16_0 := b0 BK846
   have hcz16_1 := b1 BK846
   have hcz16_2 := b2 BK846
   have hfz16_0 := blk_frozen BK846.out 0
   have hfz16_1 := blk_frozen BK846.out 1
   have hfz16_2 := blk_frozen BK846.out 2
   go_wp2_with (first | ((with_reducible refine gate_callee (f := 58) rfl ?_); refine goesLA (some 17) rfl Try.func58 #[.agg #[.int .i64 a0_0, .int .i64 a0_1, .int .i64 a0_2]] ?_; (with_reducible refine (impl_RulesOk.calls a0_0 a0_1 a0_2 true _ A7.out).mono ?_); rintro e w17 ⟨rfl, hb⟩; refine ⟨_, rfl, ?_⟩; replace BK846 := bkb BK846 hb; replace HB := bst HB hb; clear hb) | (go_at_call 95; (with_reducible refine (impl_in.calls a3 0 2000 false _ A9.out).mono ?_); rintro e w' ⟨rfl, ⟨nd, rfl⟩⟩))
   go_meet
   case rel => exact ⟨_, (true), (by first | rfl | (simp; done) | (simp [*]; done)), H', ⟨by first | omega | exact Nat.le_refl _⟩, ⟨qb BK846⟩, ⟨(qs HB)⟩⟩
  replace c8 := Bool.eq_false_iff.mpr c8
  subst c8
  have H1 : (impl_runOk.j0 k l1 l2 a3 true) = some r := by rw [if_neg (show ¬ (false = true) by decide)] at H; exact H
  clear H; have H := H1; clear H1
  have H' := Aside0.mk H
  clear H
  have hcz18_0 := b0 BK846
  have hcz18_1 := b1 BK846
  have hcz18_2 := b2 BK846
  have hfz18_0 := blk_frozen BK846.out 0
  have hfz18_1 := blk_frozen BK846.out 1
  have hfz18_2 := blk_frozen BK846.out 2
  go_wp2_with (first | ((with_reducible refine gate_callee (f := 58) rfl ?_); refine goesLA (some 17) rfl Try.func58 #[.agg #[.int .i64 a0_0, .int .i64 a0_1, .int .i64 a0_2]] ?_; (with_reducible refine (impl_RulesOk.calls a0_0 a0_1 a0_2 false _ A7.out).mono ?_); rintro e w19 ⟨rfl, hb⟩; refine ⟨_, rfl, ?_⟩; replace BK846 := bkb BK846 hb; replace HB := bst HB hb; clear hb))
  go_meet
  case rel => exact ⟨_, (true), (by first | rfl | (simp; done) | (simp [*]; done)), H', ⟨by first | omega | exact Nat.le_refl _⟩, ⟨qb BK846⟩, ⟨(qs HB)⟩⟩
 case rest =>
  clear HC5
  try clear c1; try clear c2; try clear p2; try clear c5; try clear c8; try clear c10; try clear c11; try clear c11b0; try clear c11b1; try clear hcz12_0; try clear hcz12_1; try clear hcz12_2; try clear hcz14_0; try clear hcz14_1; try clear hcz14_2; try clear hcz16_0; try clear hcz16_1; try clear hcz16_2; try clear hcz18_0; try clear hcz18_1; try clear hcz18_2; try clear hfz12_0; try clear hfz12_1; try clear hfz12_2; try clear hfz14_0; try clear hfz14_1; try clear hfz14_2; try clear hfz16_0; try clear hfz16_1; try clear hfz16_2; try clear hfz18_0; try clear hfz18_1; try clear hfz18_2
  obtain ⟨kq, x33_4, rfl, HA, HJ4, BK846, HB⟩ := hcut
  cases kq with
  | zero => exact absurd HA.out (by simp [impl_runOk.j0])
  | succ kj4 =>
   have H := HA.out
   clear HA
   simp only [impl_runOk.j0] at H
   by_cases c20 : x33_4 = true
   ·subst c20
    have H1 : (some false) = some r := by rw [if_pos rfl] at H; exact H
    clear H; have H := H1; clear H1
    obtain rfl := Option.some.inj H
    go_wp2
    go_ret
    exact ⟨by first | rfl | (simp [*, errW_none, errW_some] <;> rfl), (qs HB)⟩
   replace c20 := Bool.eq_false_iff.mpr c20
   subst c20
   have H1 : (impl_runOk.l0 kj4 l2 a3 1 l1 (l1.length : Int) 0) = some r := by rw [if_neg (show ¬ (false = true) by decide)] at H; exact H
   clear H; have H := H1; clear H1
   have H' := Aside0.mk H
   clear H
   go_wp2
   go_loopg [9, 36] kj4 (fun kq v9 v36 w' => ∃ (x9_2 : Int) (x36_2 : Int), v9 = .int .i64 x9_2 ∧ v36 = .int .i64 x36_2 ∧ Aside0 (impl_runOk.l0 kq l2 a3 x9_2 l1 (l1.length : Int) x36_2 = some r) ∧ Aside0 (kq ≤ kj4) ∧ Aside0 (w'.heap[gb846]? = some (.cells #[.int .i64 a0_0, .int .i64 a0_1, .int .i64 a0_2] 34 (0, 0))) ∧ Aside0 (Below w.heap.size w w'))
   case atStart => exact ⟨(1), (0), (by first | rfl | (simp; done) | (simp [*]; done)), (by first | rfl | (simp; done) | (simp [*]; done)), H', ⟨Nat.le_refl _⟩, ⟨qb BK846⟩, ⟨(qs HB)⟩⟩
   case round =>
    clear H'
    try clear c1; try clear c2; try clear p2; try clear c5; try clear c8; try clear c10; try clear c11; try clear c11b0; try clear c11b1; try clear c20; try clear hcz12_0; try clear hcz12_1; try clear hcz12_2; try clear hcz14_0; try clear hcz14_1; try clear hcz14_2; try clear hcz16_0; try clear hcz16_1; try clear hcz16_2; try clear hcz18_0; try clear hcz18_1; try clear hcz18_2; try clear hfz12_0; try clear hfz12_1; try clear hfz12_2; try clear hfz14_0; try clear hfz14_1; try clear hfz14_2; try clear hfz16_0; try clear hfz16_1; try clear hfz16_2; try clear hfz18_0; try clear hfz18_1; try clear hfz18_2; try clear p2
    obtain ⟨x9_2, x36_2, rfl, rfl, HA, HK2, BK846, HB⟩ := hrel
    cases gk with
    | zero => exact absurd HA.out (by simp [impl_runOk.l0])
    | succ k2 =>
     have H := HA.out
     clear HA
     simp only [impl_runOk.l0] at H
     by_cases c21 : x36_2 < (l1.length : Int)
     ·rw [if_pos c21] at H
      have c21b0 : decide (x36_2 < (l1.length : Int)) = true := decide_eq_true c21
      clear c21
      by_cases c22 : 0 ≤ x36_2
      ·rw [if_pos c22] at H
       have c22b0 : decide (0 ≤ x36_2) = true := decide_eq_true c22
       clear c22
       by_cases c23 : x36_2 < (l1.length : Int)
       ·rw [if_pos c23] at H
        have c23b0 : decide (x36_2 < (l1.length : Int)) = true := decide_eq_true c23
        clear c23
        replace H := Option.bind_eq_some_iff.mp H
        obtain ⟨t851, A240, H⟩ := H
        replace H : (if t851 = true then (impl_runOk.l0 k2 l2 a3 ((rd_T84 l1 x36_2).f0) l1 (l1.length : Int) (wrap64 (x36_2 + 1))) else (some false)) = some r := H
        have A24 := Aside0.mk A240
        clear A240
        by_cases c25 : t851 = true
        ·subst c25
         have H1 : (impl_runOk.l0 k2 l2 a3 ((rd_T84 l1 x36_2).f0) l1 (l1.length : Int) (wrap64 (x36_2 + 1))) = some r := by rw [if_pos rfl] at H; exact H
         clear H; have H := H1; clear H1
         have H' := Aside0.mk H
         clear H
         have p849 : 0 ≤ (x36_2 : Int) := of_decide_eq_true (by assumption)
         have q849 : x36_2 < (l1.length : Int) := of_decide_eq_true (by assumption)
         obtain ⟨ad849, e849, hx849_0, hx849_1⟩ := at_T84 HR1.out x36_2 p849 q849
         cases e849
         replace hx849_0 := (HB.out.cell (World.block_lt_of_cell? w _ hx849_0)).trans hx849_0
         replace hx849_1 := (HB.out.cell (World.block_lt_of_cell? w _ hx849_1)).trans hx849_1
         replace p849 := eq_true p849
         replace q849 := eq_true q849
         go_wp2_with (first | ((with_reducible refine gate_dst (N := 11) rfl ?_); (try (refine gate_guard (by rfl) ?_; dsimp only)); refine boxA #[.int .i64 0, .int .i64 0] 84 ?_; intro gb850 hg w26 hbox hb; have BK850 := Aside0.mk (hbox); have GW850 := nge HB hg; have GE850 := nge HB hg; replace HB := bst HB hb; have NB846_850 := nlt BK846 hg; have NB850_846 := ngt BK846 hg; replace BK846 := bkb BK846 hb; clear hb hbox hg; have hnb27 := NB850_846.out; have hnc27 := NB846_850.out; have hcz28_0 := b0 BK850; have hcz28_1 := b1 BK850; have hfz28_0 := blk_frozen BK850.out 0; have hfz28_1 := blk_frozen BK850.out 1) | ((with_reducible refine gate_callee (f := 95) rfl ?_); refine goesLA (some 44) rfl Try.func95 #[.int .i64 ((rd_T84 l1 x36_2).f0), .int .i64 x9_2, .int .i64 a3] ?_; (with_reducible refine (impl_in.calls ((rd_T84 l1 x36_2).f0) x9_2 a3 true _ A24.out).mono ?_); rintro e w' ⟨rfl, ⟨nd, rfl⟩⟩; refine ⟨_, rfl, ?_⟩))
         go_roundg k2
         case measure => have := HJ4.out; have := HK2.out; omega
         case rel => exact ⟨((rd_T84 l1 x36_2).f0), (wrap64 (x36_2 + 1)), (by first | rfl | (simp; done) | (simp [*]; done)), (by first | rfl | (simp; done) | (simp [*]; done)), H', ⟨by have := HJ4.out; have := HK2.out; omega⟩, ⟨qB BK846⟩, ⟨(qs HB)⟩⟩
        replace c25 := Bool.eq_false_iff.mpr c25
        subst c25
        have H1 : (some false) = some r := by rw [if_neg (show ¬ (false = true) by decide)] at H; exact H
        clear H; have H := H1; clear H1
        obtain rfl := Option.some.inj H
        have p849 : 0 ≤ (x36_2 : Int) := of_decide_eq_true (by assumption)
        have q849 : x36_2 < (l1.length : Int) := of_decide_eq_true (by assumption)
        obtain ⟨ad849, e849, hx849_0, hx849_1⟩ := at_T84 HR1.out x36_2 p849 q849
        cases e849
        replace hx849_0 := (HB.out.cell (World.block_lt_of_cell? w _ hx849_0)).trans hx849_0
        replace hx849_1 := (HB.out.cell (World.block_lt_of_cell? w _ hx849_1)).trans hx849_1
        replace p849 := eq_true p849
        replace q849 := eq_true q849
        go_wp2_with (first | ((with_reducible refine gate_dst (N := 11) rfl ?_); (try (refine gate_guard (by rfl) ?_; dsimp only)); refine boxA #[.int .i64 0, .int .i64 0] 84 ?_; intro gb850 hg w29 hbox hb; have BK850 := Aside0.mk (hbox); have GW850 := nge HB hg; have GE850 := nge HB hg; replace HB := bst HB hb; have NB846_850 := nlt BK846 hg; have NB850_846 := ngt BK846 hg; replace BK846 := bkb BK846 hb; clear hb hbox hg; have hnb30 := NB850_846.out; have hnc30 := NB846_850.out; have hcz31_0 := b0 BK850; have hcz31_1 := b1 BK850; have hfz31_0 := blk_frozen BK850.out 0; have hfz31_1 := blk_frozen BK850.out 1) | ((with_reducible refine gate_callee (f := 95) rfl ?_); refine goesLA (some 44) rfl Try.func95 #[.int .i64 ((rd_T84 l1 x36_2).f0), .int .i64 x9_2, .int .i64 a3] ?_; (with_reducible refine (impl_in.calls ((rd_T84 l1 x36_2).f0) x9_2 a3 false _ A24.out).mono ?_); rintro e w' ⟨rfl, ⟨nd, rfl⟩⟩; refine ⟨_, rfl, ?_⟩))
        go_ret
        exact ⟨by first | rfl | (simp [*, errW_none, errW_some] <;> rfl), (qs HB)⟩
       rw [if_neg c23] at H
       exact absurd H (by simp)
      rw [if_neg c22] at H
      exact absurd H (by simp)
     rw [if_neg c21] at H
     have c21b0 : decide (x36_2 < (l1.length : Int)) = false := decide_eq_false c21
     clear c21
     have H' := Aside0.mk H
     clear H
     go_wp2
     go_loopg [51] k2 (fun kq v51 w' => ∃ (x51_3 : Int), v51 = .int .i64 x51_3 ∧ Aside0 (impl_runOk.l1 kq l2 (l2.length : Int) x51_3 = some r) ∧ Aside0 (kq ≤ k2) ∧ Aside0 (w'.heap[gb846]? = some (.cells #[.int .i64 a0_0, .int .i64 a0_1, .int .i64 a0_2] 34 (0, 0))) ∧ Aside0 (Below w.heap.size w w'))
     case atStart => exact ⟨(0), (by first | rfl | (simp; done) | (simp [*]; done)), H', ⟨Nat.le_refl _⟩, ⟨qb BK846⟩, ⟨(qs HB)⟩⟩
     case round =>
      clear H'
      try clear c1; try clear c2; try clear p2; try clear c3; try clear c5; try clear p6; try clear c8; try clear p8; try clear q8; try clear hx8; try clear c9; try clear c10; try clear c11; try clear c11b0; try clear c11b1; try clear c20; try clear c21; try clear c21b0; try clear c22; try clear c22b0; try clear c23; try clear c23b0; try clear c25; try clear c27; try clear c30; try clear hcz12_0; try clear hcz12_1; try clear hcz12_2; try clear hcz14_0; try clear hcz14_1; try clear hcz14_2; try clear hcz16_0; try clear hcz16_1; try clear hcz16_2; try clear hcz18_0; try clear hcz18_1; try clear hcz18_2; try clear hcz28_0; try clear hcz28_1; try clear hcz31_0; try clear hcz31_1; try clear hfz12_0; try clear hfz12_1; try clear hfz12_2; try clear hfz14_0; try clear hfz14_1; try clear hfz14_2; try clear hfz16_0; try clear hfz16_1; try clear hfz16_2; try clear hfz18_0; try clear hfz18_1; try clear hfz18_2; try clear hfz28_0; try clear hfz28_1; try clear hfz31_0; try clear hfz31_1; try clear hx849_0; try clear hx849_1; try clear p2; try clear p849; try clear q849
      obtain ⟨x51_3, rfl, HA, HK3, BK846, HB⟩ := hrel
      cases gk with
      | zero => exact absurd HA.out (by simp [impl_runOk.l1])
      | succ k3 =>
       have H := HA.out
       clear HA
       simp only [impl_runOk.l1] at H
       by_cases c32 : x51_3 < (l2.length : Int)
       ·rw [if_pos c32] at H
        have c32b0 : decide (x51_3 < (l2.length : Int)) = true := decide_eq_true c32
        clear c32
        by_cases c33 : 0 ≤ x51_3
        ·rw [if_pos c33] at H
         have c33b0 : decide (0 ≤ x51_3) = true := decide_eq_true c33
         clear c33
         by_cases c34 : x51_3 < (l2.length : Int)
         ·rw [if_pos c34] at H
          have c34b0 : decide (x51_3 < (l2.length : Int)) = true := decide_eq_true c34
          clear c34
          by_cases c35 : ((rd_L5 l2 x51_3).length : Int) > 10
          ·rw [if_pos c35] at H
           have c35b0 : decide (10 < ((rd_L5 l2 x51_3).length : Int)) = true := decide_eq_true c35
           have c35b1 : decide (10 < (rd_L5 l2 x51_3).length) = true := decide_eq_true (by omega)
           clear c35
           obtain rfl := Option.some.inj H
           have p852 : 0 ≤ (x51_3 : Int) := of_decide_eq_true (by assumption)
           have q852 : x51_3 < (l2.length : Int) := of_decide_eq_true (by assumption)
           obtain ⟨ad852, A852_0, c852_0, e852, hx852_0, hl852_0, hi852_0⟩ := at_L5 HR2.out x51_3 p852 q852
           cases e852
           replace hx852_0 := (HB.out.cell (World.block_lt_of_cell? w _ hx852_0)).trans hx852_0
           have HR852_0 := Aside0.mk hi852_0
           have HC852_0 := Aside0.mk hl852_0
           clear hi852_0 hl852_0
           replace p852 := eq_true p852
           replace q852 := eq_true q852
           go_wp2
           go_ret
           exact ⟨by first | rfl | (simp [*, errW_none, errW_some] <;> rfl), (qs HB)⟩
          rw [if_neg c35] at H
          have c35b0 : decide (10 < ((rd_L5 l2 x51_3).length : Int)) = false := decide_eq_false c35
          have c35b1 : decide (10 < (rd_L5 l2 x51_3).length) = false := decide_eq_false (by omega)
          clear c35
          have H' := Aside0.mk H
          clear H
          have p852 : 0 ≤ (x51_3 : Int) := of_decide_eq_true (by assumption)
          have q852 : x51_3 < (l2.length : Int) := of_decide_eq_true (by assumption)
          obtain ⟨ad852, A852_0, c852_0, e852, hx852_0, hl852_0, hi852_0⟩ := at_L5 HR2.out x51_3 p852 q852
          cases e852
          replace hx852_0 := (HB.out.cell (World.block_lt_of_cell? w _ hx852_0)).trans hx852_0
          have HR852_0 := Aside0.mk hi852_0
          have HC852_0 := Aside0.mk hl852_0
          clear hi852_0 hl852_0
          replace p852 := eq_true p852
          replace q852 := eq_true q852
          go_wp2
          go_loopg [60] k3 (fun kq v60 w' => ∃ (x60_4 : Int), v60 = .int .i64 x60_4 ∧ Aside0 (impl_runOk.l2 kq l2 (l2.length : Int) x51_3 (rd_L5 l2 x51_3) ((rd_L5 l2 x51_3).length : Int) x60_4 = some r) ∧ Aside0 (kq ≤ k3) ∧ Aside0 (w'.heap[gb846]? = some (.cells #[.int .i64 a0_0, .int .i64 a0_1, .int .i64 a0_2] 34 (0, 0))) ∧ Aside0 (Below w.heap.size w w'))
          case atStart => exact ⟨(0), (by first | rfl | (simp; done) | (simp [*]; done)), H', ⟨Nat.le_refl _⟩, ⟨qb BK846⟩, ⟨(qs HB)⟩⟩
          case round =>
           clear H'
           try clear c1; try clear c2; try clear p2; try clear c3; try clear c5; try clear p6; try clear c8; try clear p8; try clear q8; try clear hx8; try clear c9; try clear c10; try clear c11; try clear c11b0; try clear c11b1; try clear c20; try clear c21; try clear c21b0; try clear c22; try clear c22b0; try clear c23; try clear c23b0; try clear c25; try clear c27; try clear c30; try clear c32; try clear c32b0; try clear c33; try clear c33b0; try clear c34; try clear c34b0; try clear c35; try clear c35b0; try clear c35b1; try clear hcz12_0; try clear hcz12_1; try clear hcz12_2; try clear hcz14_0; try clear hcz14_1; try clear hcz14_2; try clear hcz16_0; try clear hcz16_1; try clear hcz16_2; try clear hcz18_0; try clear hcz18_1; try clear hcz18_2; try clear hcz28_0; try clear hcz28_1; try clear hcz31_0; try clear hcz31_1; try clear hfz12_0; try clear hfz12_1; try clear hfz12_2; try clear hfz14_0; try clear hfz14_1; try clear hfz14_2; try clear hfz16_0; try clear hfz16_1; try clear hfz16_2; try clear hfz18_0; try clear hfz18_1; try clear hfz18_2; try clear hfz28_0; try clear hfz28_1; try clear hfz31_0; try clear hfz31_1; try clear hx849_0; try clear hx849_1; try clear hx852_0; try clear p2; try clear p6; try clear p8; try clear p849; try clear p852; try clear q8; try clear q849; try clear q852
           obtain ⟨x60_4, rfl, HA, HK4, BK846, HB⟩ := hrel
           cases gk with
           | zero => exact absurd HA.out (by simp [impl_runOk.l2])
           | succ k4 =>
            have H := HA.out
            clear HA
            simp only [impl_runOk.l2] at H
            by_cases c36 : x60_4 < ((rd_L5 l2 x51_3).length : Int)
            ·rw [if_pos c36] at H
             have c36b0 : decide (x60_4 < ((rd_L5 l2 x51_3).length : Int)) = true := decide_eq_true c36
             clear c36
             by_cases c37 : 0 ≤ x60_4
             ·rw [if_pos c37] at H
              have c37b0 : decide (0 ≤ x60_4) = true := decide_eq_true c37
              clear c37
              by_cases c38 : x60_4 < ((rd_L5 l2 x51_3).length : Int)
              ·rw [if_pos c38] at H
               have c38b0 : decide (x60_4 < ((rd_L5 l2 x51_3).length : Int)) = true := decide_eq_true c38
               clear c38
               replace H := Option.bind_eq_some_iff.mp H
               obtain ⟨t854, A390, H⟩ := H
               replace H : (if t854 = true then (impl_runOk.l2 k4 l2 (l2.length : Int) x51_3 (rd_L5 l2 x51_3) ((rd_L5 l2 x51_3).length : Int) (wrap64 (x60_4 + 1))) else (some false)) = some r := H
               have A39 := Aside0.mk A390
               clear A390
               by_cases c40 : t854 = true
               ·subst c40
                have H1 : (impl_runOk.l2 k4 l2 (l2.length : Int) x51_3 (rd_L5 l2 x51_3) ((rd_L5 l2 x51_3).length : Int) (wrap64 (x60_4 + 1))) = some r := by rw [if_pos rfl] at H; exact H
                clear H; have H := H1; clear H1
                have H' := Aside0.mk H
                clear H
                have p853 : 0 ≤ (x60_4 : Int) := of_decide_eq_true (by assumption)
                have q853 : x60_4 < ((rd_L5 l2 x51_3).length : Int) := of_decide_eq_true (by assumption)
                obtain ⟨ad853, e853, hx853_0⟩ := Kd.at_int HR852_0.out x60_4 p853 q853
                cases e853
                replace hx853_0 := (HB.out.cell (World.block_lt_of_cell? w _ hx853_0)).trans hx853_0
                replace p853 := eq_true p853
                replace q853 := eq_true q853
                go_wp2_with (first | ((with_reducible refine gate_callee (f := 95) rfl ?_); refine goesLA (some 65) rfl Try.func95 #[.int .i64 (rd (rd_L5 l2 x51_3) x60_4), .int .i64 1, .int .i64 1000] ?_; (with_reducible refine (impl_in.calls (rd (rd_L5 l2 x51_3) x60_4) 1 1000 true _ A39.out).mono ?_); rintro e w' ⟨rfl, ⟨nd, rfl⟩⟩; refine ⟨_, rfl, ?_⟩))
                go_roundg k4
                case measure => have := HJ4.out; have := HK2.out; have := HK3.out; have := HK4.out; omega
                case rel => exact ⟨(wrap64 (x60_4 + 1)), (by first | rfl | (simp; done) | (simp [*]; done)), H', ⟨by have := HJ4.out; have := HK2.out; have := HK3.out; have := HK4.out; omega⟩, ⟨qb BK846⟩, ⟨(qs HB)⟩⟩
               replace c40 := Bool.eq_false_iff.mpr c40
               subst c40
               have H1 : (some false) = some r := by rw [if_neg (show ¬ (false = true) by decide)] at H; exact H
               clear H; have H := H1; clear H1
               obtain rfl := Option.some.inj H
               have p853 : 0 ≤ (x60_4 : Int) := of_decide_eq_true (by assumption)
               have q853 : x60_4 < ((rd_L5 l2 x51_3).length : Int) := of_decide_eq_true (by assumption)
               obtain ⟨ad853, e853, hx853_0⟩ := Kd.at_int HR852_0.out x60_4 p853 q853
               cases e853
               replace hx853_0 := (HB.out.cell (World.block_lt_of_cell? w _ hx853_0)).trans hx853_0
               replace p853 := eq_true p853
               replace q853 := eq_true q853
               go_wp2_with (first | ((with_reducible refine gate_callee (f := 95) rfl ?_); refine goesLA (some 65) rfl Try.func95 #[.int .i64 (rd (rd_L5 l2 x51_3) x60_4), .int .i64 1, .int .i64 1000] ?_; (with_reducible refine (impl_in.calls (rd (rd_L5 l2 x51_3) x60_4) 1 1000 false _ A39.out).mono ?_); rintro e w' ⟨rfl, ⟨nd, rfl⟩⟩; refine ⟨_, rfl, ?_⟩))
               go_ret
               exact ⟨by first | rfl | (simp [*, errW_none, errW_some] <;> rfl), (qs HB)⟩
              rw [if_neg c38] at H
              exact absurd H (by simp)
             rw [if_neg c37] at H
             exact absurd H (by simp)
            rw [if_neg c36] at H
            have c36b0 : decide (x60_4 < ((rd_L5 l2 x51_3).length : Int)) = false := decide_eq_false c36
            clear c36
            have H' := Aside0.mk H
            clear H
            go_wp2
            go_roundg k4
            case measure => have := HJ4.out; have := HK2.out; have := HK3.out; have := HK4.out; omega
            case rel => exact ⟨(wrap64 (x51_3 + 1)), (by first | rfl | (simp; done) | (simp [*]; done)), H', ⟨by have := HJ4.out; have := HK2.out; have := HK3.out; have := HK4.out; omega⟩, ⟨qb BK846⟩, ⟨(qs HB)⟩⟩
         rw [if_neg c34] at H
         exact absurd H (by simp)
        rw [if_neg c33] at H
        exact absurd H (by simp)
       rw [if_neg c32] at H
       have c32b0 : decide (x51_3 < (l2.length : Int)) = false := decide_eq_false c32
       clear c32
       obtain rfl := Option.some.inj H
       go_wp2
       go_ret
       exact ⟨by first | rfl | (simp [*, errW_none, errW_some] <;> rfl), (qs HB)⟩
def laws_eqMoment.f (a0_0 : Int) (a0_1 : Int) (a0_2 : Int) (a0_3 : Int) (a0_4 : Int) (a0_5 : Int) (a0_6 : Int) (a0_7 : Int) (a0_8 : Int) (a0_9 : Int) (a1_0 : Int) (a1_1 : Int) (a1_2 : Int) (a1_3 : Int) (a1_4 : Int) (a1_5 : Int) (a1_6 : Int) (a1_7 : Int) (a1_8 : Int) (a1_9 : Int) : Option (Bool) := (laws_eqBox.f a0_0 a0_1 a0_2 a0_3 a0_4 a1_0 a1_1 a1_2 a1_3 a1_4).bind fun t858 => (if t858 = true then ((laws_eqTrain.f a0_5 a0_6 a0_7 a1_5 a1_6 a1_7).bind fun t859 => (if t859 = true then (if a0_8 = a1_8 then (if a0_9 = a1_9 then (some true) else (some false)) else (some false)) else (some false))) else (some false))
set_option maxHeartbeats 8000000 in
set_option maxRecDepth 100000 in
theorem laws_eqMoment.calls (a0_0 : Int) (a0_1 : Int) (a0_2 : Int) (a0_3 : Int) (a0_4 : Int) (a0_5 : Int) (a0_6 : Int) (a0_7 : Int) (a0_8 : Int) (a0_9 : Int) (a1_0 : Int) (a1_1 : Int) (a1_2 : Int) (a1_3 : Int) (a1_4 : Int) (a1_5 : Int) (a1_6 : Int) (a1_7 : Int) (a1_8 : Int) (a1_9 : Int) (r : Bool) (w : World) (h : laws_eqMoment.f a0_0 a0_1 a0_2 a0_3 a0_4 a0_5 a0_6 a0_7 a0_8 a0_9 a1_0 a1_1 a1_2 a1_3 a1_4 a1_5 a1_6 a1_7 a1_8 a1_9 = some r) :
  Calls Try.prog 87 #[.agg #[.int .i64 a0_0, .int .i64 a0_1, .int .i64 a0_2, .int .i64 a0_3, .int .i64 a0_4, .int .i64 a0_5, .int .i64 a0_6, .int .i64 a0_7, .int .i64 a0_8, .int .i64 a0_9], .agg #[.int .i64 a1_0, .int .i64 a1_1, .int .i64 a1_2, .int .i64 a1_3, .int .i64 a1_4, .int .i64 a1_5, .int .i64 a1_6, .int .i64 a1_7, .int .i64 a1_8, .int .i64 a1_9]] w fun e w' => e = .returned (.bool r) ∧ Below w.heap.size w w' := by
 have hu86 := Try.underlying86
 have hu29 := Try.underlying29
 have hu48 := Try.underlying48
 have HB := Aside0.mk (Below.refl w.heap.size w)
 have H : ((laws_eqBox.f a0_0 a0_1 a0_2 a0_3 a0_4 a1_0 a1_1 a1_2 a1_3 a1_4).bind fun t858 => (if t858 = true then ((laws_eqTrain.f a0_5 a0_6 a0_7 a1_5 a1_6 a1_7).bind fun t859 => (if t859 = true then (if a0_8 = a1_8 then (if a0_9 = a1_9 then (some true) else (some false)) else (some false)) else (some false))) else (some false))) = some r := h
 clear h
 replace H := Option.bind_eq_some_iff.mp H
 obtain ⟨t858, A30, H⟩ := H
 replace H : (if t858 = true then ((laws_eqTrain.f a0_5 a0_6 a0_7 a1_5 a1_6 a1_7).bind fun t859 => (if t859 = true then (if a0_8 = a1_8 then (if a0_9 = a1_9 then (some true) else (some false)) else (some false)) else (some false))) else (some false)) = some r := H
 have A3 := Aside0.mk A30
 clear A30
 by_cases c4 : t858 = true
 ·subst c4
  have H1 : ((laws_eqTrain.f a0_5 a0_6 a0_7 a1_5 a1_6 a1_7).bind fun t859 => (if t859 = true then (if a0_8 = a1_8 then (if a0_9 = a1_9 then (some true) else (some false)) else (some false)) else (some false))) = some r := by rw [if_pos rfl] at H; exact H
  clear H; have H := H1; clear H1
  replace H := Option.bind_eq_some_iff.mp H
  obtain ⟨t859, A50, H⟩ := H
  replace H : (if t859 = true then (if a0_8 = a1_8 then (if a0_9 = a1_9 then (some true) else (some false)) else (some false)) else (some false)) = some r := H
  have A5 := Aside0.mk A50
  clear A50
  by_cases c6 : t859 = true
  ·subst c6
   have H1 : (if a0_8 = a1_8 then (if a0_9 = a1_9 then (some true) else (some false)) else (some false)) = some r := by rw [if_pos rfl] at H; exact H
   clear H; have H := H1; clear H1
   by_cases c7 : a0_8 = a1_8
   ·rw [if_pos c7] at H
    have c7b0 : (a0_8 == a1_8) = true := beq_iff_eq.mpr c7
    have c7b1 : (a0_8 != a1_8) = false := bne_eq_false_iff_eq.mpr c7
    clear c7
    by_cases c8 : a0_9 = a1_9
    ·rw [if_pos c8] at H
     have c8b0 : (a0_9 == a1_9) = true := beq_iff_eq.mpr c8
     have c8b1 : (a0_9 != a1_9) = false := bne_eq_false_iff_eq.mpr c8
     clear c8
     obtain rfl := Option.some.inj H
     go_enter Try.func87, Try.ntmps87
     go_wp2_with (first | ((with_reducible refine gate_dst (N := 2) rfl ?_); refine boxA #[.int .i64 a0_0, .int .i64 a0_1, .int .i64 a0_2, .int .i64 a0_3, .int .i64 a0_4, .int .i64 a0_5, .int .i64 a0_6, .int .i64 a0_7, .int .i64 a0_8, .int .i64 a0_9] 86 ?_; intro gb856 hg w9 hbox hb; have BK856 := Aside0.mk (hbox); have GW856 := nge HB hg; have GE856 := nge HB hg; replace HB := bst HB hb; clear hb hbox hg) | ((with_reducible refine gate_dst (N := 3) rfl ?_); refine boxA #[.int .i64 a1_0, .int .i64 a1_1, .int .i64 a1_2, .int .i64 a1_3, .int .i64 a1_4, .int .i64 a1_5, .int .i64 a1_6, .int .i64 a1_7, .int .i64 a1_8, .int .i64 a1_9] 86 ?_; intro gb857 hg w10 hbox hb; have BK857 := Aside0.mk (hbox); have GW857 := nge HB hg; have GE857 := nge HB hg; replace HB := bst HB hb; have NB856_857 := nlt BK856 hg; have NB857_856 := ngt BK856 hg; replace BK856 := bkb BK856 hb; clear hb hbox hg; have hnb11 := NB856_857.out; have hnc11 := NB857_856.out; have hcz12_0 := b0 BK856; have hcz12_1 := b1 BK856; have hcz12_2 := b2 BK856; have hcz12_3 := b3 BK856; have hcz12_4 := b4 BK856; have hcz12_5 := b5 BK856; have hcz12_6 := b6 BK856; have hcz12_7 := b7 BK856; have hcz12_8 := b8 BK856; have hcz12_9 := b9 BK856; have hfz12_0 := blk_frozen BK856.out 0; have hfz12_1 := blk_frozen BK856.out 1; have hfz12_2 := blk_frozen BK856.out 2; have hfz12_3 := blk_frozen BK856.out 3; have hfz12_4 := blk_frozen BK856.out 4; have hfz12_5 := blk_frozen BK856.out 5; have hfz12_6 := blk_frozen BK856.out 6; have hfz12_7 := blk_frozen BK856.out 7; have hfz12_8 := blk_frozen BK856.out 8; have hfz12_9 := blk_frozen BK856.out 9; have hcz13_0 := b0 BK857; have hcz13_1 := b1 BK857; have hcz13_2 := b2 BK857; have hcz13_3 := b3 BK857; have hcz13_4 := b4 BK857; have hcz13_5 := b5 BK857; have hcz13_6 := b6 BK857; have hcz13_7 := b7 BK857; have hcz13_8 := b8 BK857; have hcz13_9 := b9 BK857; have hfz13_0 := blk_frozen BK857.out 0; have hfz13_1 := blk_frozen BK857.out 1; have hfz13_2 := blk_frozen BK857.out 2; have hfz13_3 := blk_frozen BK857.out 3; have hfz13_4 := blk_frozen BK857.out 4; have hfz13_5 := blk_frozen BK857.out 5; have hfz13_6 := blk_frozen BK857.out 6; have hfz13_7 := blk_frozen BK857.out 7; have hfz13_8 := blk_frozen BK857.out 8; have hfz13_9 := blk_frozen BK857.out 9) | ((with_reducible refine gate_callee (f := 62) rfl ?_); refine goesLA (some 9) rfl Try.func62 #[.agg #[.int .i64 a0_0, .int .i64 a0_1, .int .i64 a0_2, .int .i64 a0_3, .int .i64 a0_4], .agg #[.int .i64 a1_0, .int .i64 a1_1, .int .i64 a1_2, .int .i64 a1_3, .int .i64 a1_4]] ?_; (with_reducible refine (laws_eqBox.calls a0_0 a0_1 a0_2 a0_3 a0_4 a1_0 a1_1 a1_2 a1_3 a1_4 true _ A3.out).mono ?_); rintro e w14 ⟨rfl, hb⟩; refine ⟨_, rfl, ?_⟩; replace BK856 := bkb BK856 hb; replace BK857 := bkb BK857 hb; replace HB := bst HB hb; clear hb; have hcz15_0 := b0 BK856; have hcz15_1 := b1 BK856; have hcz15_2 := b2 BK856; have hcz15_3 := b3 BK856; have hcz15_4 := b4 BK856; have hcz15_5 := b5 BK856; have hcz15_6 := b6 BK856; have hcz15_7 := b7 BK856; have hcz15_8 := b8 BK856; have hcz15_9 := b9 BK856; have hfz15_0 := blk_frozen BK856.out 0; have hfz15_1 := blk_frozen BK856.out 1; have hfz15_2 := blk_frozen BK856.out 2; have hfz15_3 := blk_frozen BK856.out 3; have hfz15_4 := blk_frozen BK856.out 4; have hfz15_5 := blk_frozen BK856.out 5; have hfz15_6 := blk_frozen BK856.out 6; have hfz15_7 := blk_frozen BK856.out 7; have hfz15_8 := blk_frozen BK856.out 8; have hfz15_9 := blk_frozen BK856.out 9; have hcz16_0 := b0 BK857; have hcz16_1 := b1 BK857; have hcz16_2 := b2 BK857; have hcz16_3 := b3 BK857; have hcz16_4 := b4 BK857; have hcz16_5 := b5 BK857; have hcz16_6 := b6 BK857; have hcz16_7 := b7 BK857; have hcz16_8 := b8 BK857; have hcz16_9 := b9 BK857; have hfz16_0 := blk_frozen BK857.out 0; have hfz16_1 := blk_frozen BK857.out 1; have hfz16_2 := blk_frozen BK857.out 2; have hfz16_3 := blk_frozen BK857.out 3; have hfz16_4 := blk_frozen BK857.out 4; have hfz16_5 := blk_frozen BK857.out 5; have hfz16_6 := blk_frozen BK857.out 6; have hfz16_7 := blk_frozen BK857.out 7; have hfz16_8 := blk_frozen BK857.out 8; have hfz16_9 := blk_frozen BK857.out 9) | ((with_reducible refine gate_callee (f := 68) rfl ?_); refine goesLA (some 15) rfl Try.func68 #[.agg #[.int .i64 a0_5, .int .i64 a0_6, .int .i64 a0_7], .agg #[.int .i64 a1_5, .int .i64 a1_6, .int .i64 a1_7]] ?_; (with_reducible refine (laws_eqTrain.calls a0_5 a0_6 a0_7 a1_5 a1_6 a1_7 true _ A5.out).mono ?_); rintro e w17 ⟨rfl, hb⟩; refine ⟨_, rfl, ?_⟩; replace BK856 := bkb BK856 hb; replace BK857 := bkb BK857 hb; replace HB := bst HB hb; clear hb; have hcz18_0 := b0 BK856; have hcz18_1 := b1 BK856; have hcz18_2 := b2 BK856; have hcz18_3 := b3 BK856; have hcz18_4 := b4 BK856; have hcz18_5 := b5 BK856; have hcz18_6 := b6 BK856; have hcz18_7 := b7 BK856; have hcz18_8 := b8 BK856; have hcz18_9 := b9 BK856; have hfz18_0 := blk_frozen BK856.out 0; have hfz18_1 := blk_frozen BK856.out 1; have hfz18_2 := blk_frozen BK856.out 2; have hfz18_3 := blk_frozen BK856.out 3; have hfz18_4 := blk_frozen BK856.out 4; have hfz18_5 := blk_frozen BK856.out 5; have hfz18_6 := blk_frozen BK856.out 6; have hfz18_7 := blk_frozen BK856.out 7; have hfz18_8 := blk_frozen BK856.out 8; have hfz18_9 := blk_frozen BK856.out 9; have hcz19_0 := b0 BK857; have hcz19_1 := b1 BK857; have hcz19_2 := b2 BK857; have hcz19_3 := b3 BK857; have hcz19_4 := b4 BK857; have hcz19_5 := b5 BK857; have hcz19_6 := b6 BK857; have hcz19_7 := b7 BK857; have hcz19_8 := b8 BK857; have hcz19_9 := b9 BK857; have hfz19_0 := blk_frozen BK857.out 0; have hfz19_1 := blk_frozen BK857.out 1; have hfz19_2 := blk_frozen BK857.out 2; have hfz19_3 := blk_frozen BK857.out 3; have hfz19_4 := blk_frozen BK857.out 4; have hfz19_5 := blk_frozen BK857.out 5; have hfz19_6 := blk_frozen BK857.out 6; have hfz19_7 := blk_frozen BK857.out 7; have hfz19_8 := blk_frozen BK857.out 8; have hfz19_9 := blk_frozen BK857.out 9))
     go_ret
     exact ⟨by first | rfl | (simp [*, errW_none, errW_some] <;> rfl), (qs HB)⟩
    rw [if_neg c8] at H
    have c8b0 : (a0_9 == a1_9) = false := beq_eq_false_iff_ne.mpr c8
    have c8b1 : (a0_9 != a1_9) = true := bne_iff_ne.mpr c8
    obtain rfl := Option.some.inj H
    go_enter Try.func87, Try.ntmps87
    go_wp2_with (first | ((with_reducible refine gate_dst (N := 2) rfl ?_); refine boxA #[.int .i64 a0_0, .int .i64 a0_1, .int .i64 a0_2, .int .i64 a0_3, .int .i64 a0_4, .int .i64 a0_5, .int .i64 a0_6, .int .i64 a0_7, .int .i64 a0_8, .int .i64 a0_9] 86 ?_; intro gb856 hg w20 hbox hb; have BK856 := Aside0.mk (hbox); have GW856 := nge HB hg; have GE856 := nge HB hg; replace HB := bst HB hb; clear hb hbox hg) | ((with_reducible refine gate_dst (N := 3) rfl ?_); refine boxA #[.int .i64 a1_0, .int .i64 a1_1, .int .i64 a1_2, .int .i64 a1_3, .int .i64 a1_4, .int .i64 a1_5, .int .i64 a1_6, .int .i64 a1_7, .int .i64 a1_8, .int .i64 a1_9] 86 ?_; intro gb857 hg w21 hbox hb; have BK857 := Aside0.mk (hbox); have GW857 := nge HB hg; have GE857 := nge HB hg; replace HB := bst HB hb; have NB856_857 := nlt BK856 hg; have NB857_856 := ngt BK856 hg; replace BK856 := bkb BK856 hb; clear hb hbox hg; have hnb22 := NB856_857.out; have hnc22 := NB857_856.out; have hcz23_0 := b0 BK856; have hcz23_1 := b1 BK856; have hcz23_2 := b2 BK856; have hcz23_3 := b3 BK856; have hcz23_4 := b4 BK856; have hcz23_5 := b5 BK856; have hcz23_6 := b6 BK856; have hcz23_7 := b7 BK856; have hcz23_8 := b8 BK856; have hcz23_9 := b9 BK856; have hfz23_0 := blk_frozen BK856.out 0; have hfz23_1 := blk_frozen BK856.out 1; have hfz23_2 := blk_frozen BK856.out 2; have hfz23_3 := blk_frozen BK856.out 3; have hfz23_4 := blk_frozen BK856.out 4; have hfz23_5 := blk_frozen BK856.out 5; have hfz23_6 := blk_frozen BK856.out 6; have hfz23_7 := blk_frozen BK856.out 7; have hfz23_8 := blk_frozen BK856.out 8; have hfz23_9 := blk_frozen BK856.out 9; have hcz24_0 := b0 BK857; have hcz24_1 := b1 BK857; have hcz24_2 := b2 BK857; have hcz24_3 := b3 BK857; have hcz24_4 := b4 BK857; have hcz24_5 := b5 BK857; have hcz24_6 := b6 BK857; have hcz24_7 := b7 BK857; have hcz24_8 := b8 BK857; have hcz24_9 := b9 BK857; have hfz24_0 := blk_frozen BK857.out 0; have hfz24_1 := blk_frozen BK857.out 1; have hfz24_2 := blk_frozen BK857.out 2; have hfz24_3 := blk_frozen BK857.out 3; have hfz24_4 := blk_frozen BK857.out 4; have hfz24_5 := blk_frozen BK857.out 5; have hfz24_6 := blk_frozen BK857.out 6; have hfz24_7 := blk_frozen BK857.out 7; have hfz24_8 := blk_frozen BK857.out 8; have hfz24_9 := blk_frozen BK857.out 9) | ((with_reducible refine gate_callee (f := 62) rfl ?_); refine goesLA (some 9) rfl Try.func62 #[.agg #[.int .i64 a0_0, .int .i64 a0_1, .int .i64 a0_2, .int .i64 a0_3, .int .i64 a0_4], .agg #[.int .i64 a1_0, .int .i64 a1_1, .int .i64 a1_2, .int .i64 a1_3, .int .i64 a1_4]] ?_; (with_reducible refine (laws_eqBox.calls a0_0 a0_1 a0_2 a0_3 a0_4 a1_0 a1_1 a1_2 a1_3 a1_4 true _ A3.out).mono ?_); rintro e w25 ⟨rfl, hb⟩; refine ⟨_, rfl, ?_⟩; replace BK856 := bkb BK856 hb; replace BK857 := bkb BK857 hb; replace HB := bst HB hb; clear hb; have hcz26_0 := b0 BK856; have hcz26_1 := b1 BK856; have hcz26_2 := b2 BK856; have hcz26_3 := b3 BK856; have hcz26_4 := b4 BK856; have hcz26_5 := b5 BK856; have hcz26_6 := b6 BK856; have hcz26_7 := b7 BK856; have hcz26_8 := b8 BK856; have hcz26_9 := b9 BK856; have hfz26_0 := blk_frozen BK856.out 0; have hfz26_1 := blk_frozen BK856.out 1; have hfz26_2 := blk_frozen BK856.out 2; have hfz26_3 := blk_frozen BK856.out 3; have hfz26_4 := blk_frozen BK856.out 4; have hfz26_5 := blk_frozen BK856.out 5; have hfz26_6 := blk_frozen BK856.out 6; have hfz26_7 := blk_frozen BK856.out 7; have hfz26_8 := blk_frozen BK856.out 8; have hfz26_9 := blk_frozen BK856.out 9; have hcz27_0 := b0 BK857; have hcz27_1 := b1 BK857; have hcz27_2 := b2 BK857; have hcz27_3 := b3 BK857; have hcz27_4 := b4 BK857; have hcz27_5 := b5 BK857; have hcz27_6 := b6 BK857; have hcz27_7 := b7 BK857; have hcz27_8 := b8 BK857; have hcz27_9 := b9 BK857; have hfz27_0 := blk_frozen BK857.out 0; have hfz27_1 := blk_frozen BK857.out 1; have hfz27_2 := blk_frozen BK857.out 2; have hfz27_3 := blk_frozen BK857.out 3; have hfz27_4 := blk_frozen BK857.out 4; have hfz27_5 := blk_frozen BK857.out 5; have hfz27_6 := blk_frozen BK857.out 6; have hfz27_7 := blk_frozen BK857.out 7; have hfz27_8 := blk_frozen BK857.out 8; have hfz27_9 := blk_frozen BK857.out 9) | ((with_reducible refine gate_callee (f := 68) rfl ?_); refine goesLA (some 15) rfl Try.func68 #[.agg #[.int .i64 a0_5, .int .i64 a0_6, .int .i64 a0_7], .agg #[.int .i64 a1_5, .int .i64 a1_6, .int .i64 a1_7]] ?_; (with_reducible refine (laws_eqTrain.calls a0_5 a0_6 a0_7 a1_5 a1_6 a1_7 true _ A5.out).mono ?_); rintro e w28 ⟨rfl, hb⟩; refine ⟨_, rfl, ?_⟩; replace BK856 := bkb BK856 hb; replace BK857 := bkb BK857 hb; replace HB := bst HB hb; clear hb; have hcz29_0 := b0 BK856; have hcz29_1 := b1 BK856; have hcz29_2 := b2 BK856; have hcz29_3 := b3 BK856; have hcz29_4 := b4 BK856; have hcz29_5 := b5 BK856; have hcz29_6 := b6 BK856; have hcz29_7 := b7 BK856; have hcz29_8 := b8 BK856; have hcz29_9 := b9 BK856; have hfz29_0 := blk_frozen BK856.out 0; have hfz29_1 := blk_frozen BK856.out 1; have hfz29_2 := blk_frozen BK856.out 2; have hfz29_3 := blk_frozen BK856.out 3; have hfz29_4 := blk_frozen BK856.out 4; have hfz29_5 := blk_frozen BK856.out 5; have hfz29_6 := blk_frozen BK856.out 6; have hfz29_7 := blk_frozen BK856.out 7; have hfz29_8 := blk_frozen BK856.out 8; have hfz29_9 := blk_frozen BK856.out 9; have hcz30_0 := b0 BK857; have hcz30_1 := b1 BK857; have hcz30_2 := b2 BK857; have hcz30_3 := b3 BK857; have hcz30_4 := b4 BK857; have hcz30_5 := b5 BK857; have hcz30_6 := b6 BK857; have hcz30_7 := b7 BK857; have hcz30_8 := b8 BK857; have hcz30_9 := b9 BK857; have hfz30_0 := blk_frozen BK857.out 0; have hfz30_1 := blk_frozen BK857.out 1; have hfz30_2 := blk_frozen BK857.out 2; have hfz30_3 := blk_frozen BK857.out 3; have hfz30_4 := blk_frozen BK857.out 4; have hfz30_5 := blk_frozen BK857.out 5; have hfz30_6 := blk_frozen BK857.out 6; have hfz30_7 := blk_frozen BK857.out 7; have hfz30_8 := blk_frozen BK857.out 8; have hfz30_9 := blk_frozen BK857.out 9))
    go_ret
    exact ⟨by first | rfl | (simp [*, errW_none, errW_some] <;> rfl), (qs HB)⟩
   rw [if_neg c7] at H
   have c7b0 : (a0_8 == a1_8) = false := beq_eq_false_iff_ne.mpr c7
   have c7b1 : (a0_8 != a1_8) = true := bne_iff_ne.mpr c7
   obtain rfl := Option.some.inj H
   go_enter Try.func87, Try.ntmps87
   go_wp2_with (first | ((with_reducible refine gate_dst (N := 2) rfl ?_); refine boxA #[.int .i64 a0_0, .int .i64 a0_1, .int .i64 a0_2, .int .i64 a0_3, .int .i64 a0_4, .int .i64 a0_5, .int .i64 a0_6, .int .i64 a0_7, .int .i64 a0_8, .int .i64 a0_9] 86 ?_; intro gb856 hg w31 hbox hb; have BK856 := Aside0.mk (hbox); have GW856 := nge HB hg; have GE856 := nge HB hg; replace HB := bst HB hb; clear hb hbox hg) | ((with_reducible refine gate_dst (N := 3) rfl ?_); refine boxA #[.int .i64 a1_0, .int .i64 a1_1, .int .i64 a1_2, .int .i64 a1_3, .int .i64 a1_4, .int .i64 a1_5, .int .i64 a1_6, .int .i64 a1_7, .int .i64 a1_8, .int .i64 a1_9] 86 ?_; intro gb857 hg w32 hbox hb; have BK857 := Aside0.mk (hbox); have GW857 := nge HB hg; have GE857 := nge HB hg; replace HB := bst HB hb; have NB856_857 := nlt BK856 hg; have NB857_856 := ngt BK856 hg; replace BK856 := bkb BK856 hb; clear hb hbox hg; have hnb33 := NB856_857.out; have hnc33 := NB857_856.out; have hcz34_0 := b0 BK856; have hcz34_1 := b1 BK856; have hcz34_2 := b2 BK856; have hcz34_3 := b3 BK856; have hcz34_4 := b4 BK856; have hcz34_5 := b5 BK856; have hcz34_6 := b6 BK856; have hcz34_7 := b7 BK856; have hcz34_8 := b8 BK856; have hcz34_9 := b9 BK856; have hfz34_0 := blk_frozen BK856.out 0; have hfz34_1 := blk_frozen BK856.out 1; have hfz34_2 := blk_frozen BK856.out 2; have hfz34_3 := blk_frozen BK856.out 3; have hfz34_4 := blk_frozen BK856.out 4; have hfz34_5 := blk_frozen BK856.out 5; have hfz34_6 := blk_frozen BK856.out 6; have hfz34_7 := blk_frozen BK856.out 7; have hfz34_8 := blk_frozen BK856.out 8; have hfz34_9 := blk_frozen BK856.out 9; have hcz35_0 := b0 BK857; have hcz35_1 := b1 BK857; have hcz35_2 := b2 BK857; have hcz35_3 := b3 BK857; have hcz35_4 := b4 BK857; have hcz35_5 := b5 BK857; have hcz35_6 := b6 BK857; have hcz35_7 := b7 BK857; have hcz35_8 := b8 BK857; have hcz35_9 := b9 BK857; have hfz35_0 := blk_frozen BK857.out 0; have hfz35_1 := blk_frozen BK857.out 1; have hfz35_2 := blk_frozen BK857.out 2; have hfz35_3 := blk_frozen BK857.out 3; have hfz35_4 := blk_frozen BK857.out 4; have hfz35_5 := blk_frozen BK857.out 5; have hfz35_6 := blk_frozen BK857.out 6; have hfz35_7 := blk_frozen BK857.out 7; have hfz35_8 := blk_frozen BK857.out 8; have hfz35_9 := blk_frozen BK857.out 9) | ((with_reducible refine gate_callee (f := 62) rfl ?_); refine goesLA (some 9) rfl Try.func62 #[.agg #[.int .i64 a0_0, .int .i64 a0_1, .int .i64 a0_2, .int .i64 a0_3, .int .i64 a0_4], .agg #[.int .i64 a1_0, .int .i64 a1_1, .int .i64 a1_2, .int .i64 a1_3, .int .i64 a1_4]] ?_; (with_reducible refine (laws_eqBox.calls a0_0 a0_1 a0_2 a0_3 a0_4 a1_0 a1_1 a1_2 a1_3 a1_4 true _ A3.out).mono ?_); rintro e w36 ⟨rfl, hb⟩; refine ⟨_, rfl, ?_⟩; replace BK856 := bkb BK856 hb; replace BK857 := bkb BK857 hb; replace HB := bst HB hb; clear hb; have hcz37_0 := b0 BK856; have hcz37_1 := b1 BK856; have hcz37_2 := b2 BK856; have hcz37_3 := b3 BK856; have hcz37_4 := b4 BK856; have hcz37_5 := b5 BK856; have hcz37_6 := b6 BK856; have hcz37_7 := b7 BK856; have hcz37_8 := b8 BK856; have hcz37_9 := b9 BK856; have hfz37_0 := blk_frozen BK856.out 0; have hfz37_1 := blk_frozen BK856.out 1; have hfz37_2 := blk_frozen BK856.out 2; have hfz37_3 := blk_frozen BK856.out 3; have hfz37_4 := blk_frozen BK856.out 4; have hfz37_5 := blk_frozen BK856.out 5; have hfz37_6 := blk_frozen BK856.out 6; have hfz37_7 := blk_frozen BK856.out 7; have hfz37_8 := blk_frozen BK856.out 8; have hfz37_9 := blk_frozen BK856.out 9; have hcz38_0 := b0 BK857; have hcz38_1 := b1 BK857; have hcz38_2 := b2 BK857; have hcz38_3 := b3 BK857; have hcz38_4 := b4 BK857; have hcz38_5 := b5 BK857; have hcz38_6 := b6 BK857; have hcz38_7 := b7 BK857; have hcz38_8 := b8 BK857; have hcz38_9 := b9 BK857; have hfz38_0 := blk_frozen BK857.out 0; have hfz38_1 := blk_frozen BK857.out 1; have hfz38_2 := blk_frozen BK857.out 2; have hfz38_3 := blk_frozen BK857.out 3; have hfz38_4 := blk_frozen BK857.out 4; have hfz38_5 := blk_frozen BK857.out 5; have hfz38_6 := blk_frozen BK857.out 6; have hfz38_7 := blk_frozen BK857.out 7; have hfz38_8 := blk_frozen BK857.out 8; have hfz38_9 := blk_frozen BK857.out 9) | ((with_reducible refine gate_callee (f := 68) rfl ?_); refine goesLA (some 15) rfl Try.func68 #[.agg #[.int .i64 a0_5, .int .i64 a0_6, .int .i64 a0_7], .agg #[.int .i64 a1_5, .int .i64 a1_6, .int .i64 a1_7]] ?_; (with_reducible refine (laws_eqTrain.calls a0_5 a0_6 a0_7 a1_5 a1_6 a1_7 true _ A5.out).mono ?_); rintro e w39 ⟨rfl, hb⟩; refine ⟨_, rfl, ?_⟩; replace BK856 := bkb BK856 hb; replace BK857 := bkb BK857 hb; replace HB := bst HB hb; clear hb; have hcz40_0 := b0 BK856; have hcz40_1 := b1 BK856; have hcz40_2 := b2 BK856; have hcz40_3 := b3 BK856; have hcz40_4 := b4 BK856; have hcz40_5 := b5 BK856; have hcz40_6 := b6 BK856; have hcz40_7 := b7 BK856; have hcz40_8 := b8 BK856; have hcz40_9 := b9 BK856; have hfz40_0 := blk_frozen BK856.out 0; have hfz40_1 := blk_frozen BK856.out 1; have hfz40_2 := blk_frozen BK856.out 2; have hfz40_3 := blk_frozen BK856.out 3; have hfz40_4 := blk_frozen BK856.out 4; have hfz40_5 := blk_frozen BK856.out 5; have hfz40_6 := blk_frozen BK856.out 6; have hfz40_7 := blk_frozen BK856.out 7; have hfz40_8 := blk_frozen BK856.out 8; have hfz40_9 := blk_frozen BK856.out 9; have hcz41_0 := b0 BK857; have hcz41_1 := b1 BK857; have hcz41_2 := b2 BK857; have hcz41_3 := b3 BK857; have hcz41_4 := b4 BK857; have hcz41_5 := b5 BK857; have hcz41_6 := b6 BK857; have hcz41_7 := b7 BK857; have hcz41_8 := b8 BK857; have hcz41_9 := b9 BK857; have hfz41_0 := blk_frozen BK857.out 0; have hfz41_1 := blk_frozen BK857.out 1; have hfz41_2 := blk_frozen BK857.out 2; have hfz41_3 := blk_frozen BK857.out 3; have hfz41_4 := blk_frozen BK857.out 4; have hfz41_5 := blk_frozen BK857.out 5; have hfz41_6 := blk_frozen BK857.out 6; have hfz41_7 := blk_frozen BK857.out 7; have hfz41_8 := blk_frozen BK857.out 8; have hfz41_9 := blk_frozen BK857.out 9))
   go_ret
   exact ⟨by first | rfl | (simp [*, errW_none, errW_some] <;> rfl), (qs HB)⟩
  replace c6 := Bool.eq_false_iff.mpr c6
  subst c6
  have H1 : (some false) = some r := by rw [if_neg (show ¬ (false = true) by decide)] at H; exact H
  clear H; have H := H1; clear H1
  obtain rfl := Option.some.inj H
  go_enter Try.func87, Try.ntmps87
  go_wp2_with (first | ((with_reducible refine gate_dst (N := 2) rfl ?_); refine boxA #[.int .i64 a0_0, .int .i64 a0_1, .int .i64 a0_2, .int .i64 a0_3, .int .i64 a0_4, .int .i64 a0_5, .int .i64 a0_6, .int .i64 a0_7, .int .i64 a0_8, .int .i64 a0_9] 86 ?_; intro gb856 hg w42 hbox hb; have BK856 := Aside0.mk (hbox); have GW856 := nge HB hg; have GE856 := nge HB hg; replace HB := bst HB hb; clear hb hbox hg) | ((with_reducible refine gate_dst (N := 3) rfl ?_); refine boxA #[.int .i64 a1_0, .int .i64 a1_1, .int .i64 a1_2, .int .i64 a1_3, .int .i64 a1_4, .int .i64 a1_5, .int .i64 a1_6, .int .i64 a1_7, .int .i64 a1_8, .int .i64 a1_9] 86 ?_; intro gb857 hg w43 hbox hb; have BK857 := Aside0.mk (hbox); have GW857 := nge HB hg; have GE857 := nge HB hg; replace HB := bst HB hb; have NB856_857 := nlt BK856 hg; have NB857_856 := ngt BK856 hg; replace BK856 := bkb BK856 hb; clear hb hbox hg; have hnb44 := NB856_857.out; have hnc44 := NB857_856.out; have hcz45_0 := b0 BK856; have hcz45_1 := b1 BK856; have hcz45_2 := b2 BK856; have hcz45_3 := b3 BK856; have hcz45_4 := b4 BK856; have hcz45_5 := b5 BK856; have hcz45_6 := b6 BK856; have hcz45_7 := b7 BK856; have hcz45_8 := b8 BK856; have hcz45_9 := b9 BK856; have hfz45_0 := blk_frozen BK856.out 0; have hfz45_1 := blk_frozen BK856.out 1; have hfz45_2 := blk_frozen BK856.out 2; have hfz45_3 := blk_frozen BK856.out 3; have hfz45_4 := blk_frozen BK856.out 4; have hfz45_5 := blk_frozen BK856.out 5; have hfz45_6 := blk_frozen BK856.out 6; have hfz45_7 := blk_frozen BK856.out 7; have hfz45_8 := blk_frozen BK856.out 8; have hfz45_9 := blk_frozen BK856.out 9; have hcz46_0 := b0 BK857; have hcz46_1 := b1 BK857; have hcz46_2 := b2 BK857; have hcz46_3 := b3 BK857; have hcz46_4 := b4 BK857; have hcz46_5 := b5 BK857; have hcz46_6 := b6 BK857; have hcz46_7 := b7 BK857; have hcz46_8 := b8 BK857; have hcz46_9 := b9 BK857; have hfz46_0 := blk_frozen BK857.out 0; have hfz46_1 := blk_frozen BK857.out 1; have hfz46_2 := blk_frozen BK857.out 2; have hfz46_3 := blk_frozen BK857.out 3; have hfz46_4 := blk_frozen BK857.out 4; have hfz46_5 := blk_frozen BK857.out 5; have hfz46_6 := blk_frozen BK857.out 6; have hfz46_7 := blk_frozen BK857.out 7; have hfz46_8 := blk_frozen BK857.out 8; have hfz46_9 := blk_frozen BK857.out 9) | ((with_reducible refine gate_callee (f := 62) rfl ?_); refine goesLA (some 9) rfl Try.func62 #[.agg #[.int .i64 a0_0, .int .i64 a0_1, .int .i64 a0_2, .int .i64 a0_3, .int .i64 a0_4], .agg #[.int .i64 a1_0, .int .i64 a1_1, .int .i64 a1_2, .int .i64 a1_3, .int .i64 a1_4]] ?_; (with_reducible refine (laws_eqBox.calls a0_0 a0_1 a0_2 a0_3 a0_4 a1_0 a1_1 a1_2 a1_3 a1_4 true _ A3.out).mono ?_); rintro e w47 ⟨rfl, hb⟩; refine ⟨_, rfl, ?_⟩; replace BK856 := bkb BK856 hb; replace BK857 := bkb BK857 hb; replace HB := bst HB hb; clear hb; have hcz48_0 := b0 BK856; have hcz48_1 := b1 BK856; have hcz48_2 := b2 BK856; have hcz48_3 := b3 BK856; have hcz48_4 := b4 BK856; have hcz48_5 := b5 BK856; have hcz48_6 := b6 BK856; have hcz48_7 := b7 BK856; have hcz48_8 := b8 BK856; have hcz48_9 := b9 BK856; have hfz48_0 := blk_frozen BK856.out 0; have hfz48_1 := blk_frozen BK856.out 1; have hfz48_2 := blk_frozen BK856.out 2; have hfz48_3 := blk_frozen BK856.out 3; have hfz48_4 := blk_frozen BK856.out 4; have hfz48_5 := blk_frozen BK856.out 5; have hfz48_6 := blk_frozen BK856.out 6; have hfz48_7 := blk_frozen BK856.out 7; have hfz48_8 := blk_frozen BK856.out 8; have hfz48_9 := blk_frozen BK856.out 9; have hcz49_0 := b0 BK857; have hcz49_1 := b1 BK857; have hcz49_2 := b2 BK857; have hcz49_3 := b3 BK857; have hcz49_4 := b4 BK857; have hcz49_5 := b5 BK857; have hcz49_6 := b6 BK857; have hcz49_7 := b7 BK857; have hcz49_8 := b8 BK857; have hcz49_9 := b9 BK857; have hfz49_0 := blk_frozen BK857.out 0; have hfz49_1 := blk_frozen BK857.out 1; have hfz49_2 := blk_frozen BK857.out 2; have hfz49_3 := blk_frozen BK857.out 3; have hfz49_4 := blk_frozen BK857.out 4; have hfz49_5 := blk_frozen BK857.out 5; have hfz49_6 := blk_frozen BK857.out 6; have hfz49_7 := blk_frozen BK857.out 7; have hfz49_8 := blk_frozen BK857.out 8; have hfz49_9 := blk_frozen BK857.out 9) | ((with_reducible refine gate_callee (f := 68) rfl ?_); refine goesLA (some 15) rfl Try.func68 #[.agg #[.int .i64 a0_5, .int .i64 a0_6, .int .i64 a0_7], .agg #[.int .i64 a1_5, .int .i64 a1_6, .int .i64 a1_7]] ?_; (with_reducible refine (laws_eqTrain.calls a0_5 a0_6 a0_7 a1_5 a1_6 a1_7 false _ A5.out).mono ?_); rintro e w50 ⟨rfl, hb⟩; refine ⟨_, rfl, ?_⟩; replace BK856 := bkb BK856 hb; replace BK857 := bkb BK857 hb; replace HB := bst HB hb; clear hb))
  go_ret
  exact ⟨by first | rfl | (simp [*, errW_none, errW_some] <;> rfl), (qs HB)⟩
 replace c4 := Bool.eq_false_iff.mpr c4
 subst c4
 have H1 : (some false) = some r := by rw [if_neg (show ¬ (false = true) by decide)] at H; exact H
 clear H; have H := H1; clear H1
 obtain rfl := Option.some.inj H
 go_enter Try.func87, Try.ntmps87
 go_wp2_with (first | ((with_reducible refine gate_dst (N := 2) rfl ?_); refine boxA #[.int .i64 a0_0, .int .i64 a0_1, .int .i64 a0_2, .int .i64 a0_3, .int .i64 a0_4, .int .i64 a0_5, .int .i64 a0_6, .int .i64 a0_7, .int .i64 a0_8, .int .i64 a0_9] 86 ?_; intro gb856 hg w51 hbox hb; have BK856 := Aside0.mk (hbox); have GW856 := nge HB hg; have GE856 := nge HB hg; replace HB := bst HB hb; clear hb hbox hg) | ((with_reducible refine gate_dst (N := 3) rfl ?_); refine boxA #[.int .i64 a1_0, .int .i64 a1_1, .int .i64 a1_2, .int .i64 a1_3, .int .i64 a1_4, .int .i64 a1_5, .int .i64 a1_6, .int .i64 a1_7, .int .i64 a1_8, .int .i64 a1_9] 86 ?_; intro gb857 hg w52 hbox hb; have BK857 := Aside0.mk (hbox); have GW857 := nge HB hg; have GE857 := nge HB hg; replace HB := bst HB hb; have NB856_857 := nlt BK856 hg; have NB857_856 := ngt BK856 hg; replace BK856 := bkb BK856 hb; clear hb hbox hg; have hnb53 := NB856_857.out; have hnc53 := NB857_856.out; have hcz54_0 := b0 BK856; have hcz54_1 := b1 BK856; have hcz54_2 := b2 BK856; have hcz54_3 := b3 BK856; have hcz54_4 := b4 BK856; have hcz54_5 := b5 BK856; have hcz54_6 := b6 BK856; have hcz54_7 := b7 BK856; have hcz54_8 := b8 BK856; have hcz54_9 := b9 BK856; have hfz54_0 := blk_frozen BK856.out 0; have hfz54_1 := blk_frozen BK856.out 1; have hfz54_2 := blk_frozen BK856.out 2; have hfz54_3 := blk_frozen BK856.out 3; have hfz54_4 := blk_frozen BK856.out 4; have hfz54_5 := blk_frozen BK856.out 5; have hfz54_6 := blk_frozen BK856.out 6; have hfz54_7 := blk_frozen BK856.out 7; have hfz54_8 := blk_frozen BK856.out 8; have hfz54_9 := blk_frozen BK856.out 9; have hcz55_0 := b0 BK857; have hcz55_1 := b1 BK857; have hcz55_2 := b2 BK857; have hcz55_3 := b3 BK857; have hcz55_4 := b4 BK857; have hcz55_5 := b5 BK857; have hcz55_6 := b6 BK857; have hcz55_7 := b7 BK857; have hcz55_8 := b8 BK857; have hcz55_9 := b9 BK857; have hfz55_0 := blk_frozen BK857.out 0; have hfz55_1 := blk_frozen BK857.out 1; have hfz55_2 := blk_frozen BK857.out 2; have hfz55_3 := blk_frozen BK857.out 3; have hfz55_4 := blk_frozen BK857.out 4; have hfz55_5 := blk_frozen BK857.out 5; have hfz55_6 := blk_frozen BK857.out 6; have hfz55_7 := blk_frozen BK857.out 7; have hfz55_8 := blk_frozen BK857.out 8; have hfz55_9 := blk_frozen BK857.out 9) | ((with_reducible refine gate_callee (f := 62) rfl ?_); refine goesLA (some 9) rfl Try.func62 #[.agg #[.int .i64 a0_0, .int .i64 a0_1, .int .i64 a0_2, .int .i64 a0_3, .int .i64 a0_4], .agg #[.int .i64 a1_0, .int .i64 a1_1, .int .i64 a1_2, .int .i64 a1_3, .int .i64 a1_4]] ?_; (with_reducible refine (laws_eqBox.calls a0_0 a0_1 a0_2 a0_3 a0_4 a1_0 a1_1 a1_2 a1_3 a1_4 false _ A3.out).mono ?_); rintro e w56 ⟨rfl, hb⟩; refine ⟨_, rfl, ?_⟩; replace BK856 := bkb BK856 hb; replace BK857 := bkb BK857 hb; replace HB := bst HB hb; clear hb))
 go_ret
 exact ⟨by first | rfl | (simp [*, errW_none, errW_some] <;> rfl), (qs HB)⟩
end Go.Proofs.Ytndffnacbfdnoaa.PAll
