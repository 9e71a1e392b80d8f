-- Lines of PAllx22 that this claim uses.
import Derived.Test.YtndffnacbfdnoaaCOSqd
import Derived.Test.YtndffnacbfdnoaaCOSq
import Derived.Test.YtndffnacbfdnoaaCOPAllx0
import Derived.Test.YtndffnacbfdnoaaCOPAllx7
import Derived.Test.YtndffnacbfdnoaaCOPAllx9
import Derived.Test.YtndffnacbfdnoaaCOPAllx13
namespace Go.Proofs.Ytndffnacbfdnoaa.PAll
open Go.RowKit Go.Proofs.YtndffnacbfdnoaaW.PrintWords Go.Proofs.YtndffnacbfdnoaaW.PrintLast Go.Proofs.YtndffnacbfdnoaaW.PrintMore
attribute [local go_sem] max2_int min2_int max_two min_two max_three min_three max_four min_four   -- for this text's walks alone
set_option linter.unusedVariables false
set_option linter.unusedSimpArgs false
mutual
def impl_runOk.j0 : Nat → List (S84) → List (List Int) → Int → Bool → Option (Bool)
 | 0, _, _, _, _ => none
 | k + 1, x1, x2, x3, x33 => if x33 = true then (some false) else (impl_runOk.l0 k x2 x3 1 x1 (x1.length : Int) 0)
def impl_runOk.l0 : Nat → List (List Int) → Int → Int → List (S84) → Int → Int → Option (Bool)
 | 0, _, _, _, _, _, _ => none
 | k + 1, x2, x3, x9, x34, x35, x36 => if x36 < x35 then (if 0 ≤ x36 then (if x36 < (x34.length : Int) then ((impl_in.f ((rd_T84 x34 x36).f0) x9 x3).bind fun t878 => (if t878 = true then (impl_runOk.l0 k x2 x3 ((rd_T84 x34 x36).f0) x34 x35 (wrap64 (x36 + 1))) else (some false))) else (none)) else (none)) else (impl_runOk.l1 k x2 (x2.length : Int) 0)
def impl_runOk.l1 : Nat → List (List Int) → Int → Int → Option (Bool)
 | 0, _, _, _ => none
 | k + 1, x49, x50, x51 => if x51 < x50 then (if 0 ≤ x51 then (if x51 < (x49.length : Int) then (if ((rd_L5 x49 x51).length : Int) > 10 then (some false) else (impl_runOk.l2 k x49 x50 x51 (rd_L5 x49 x51) ((rd_L5 x49 x51).length : Int) 0)) else (none)) else (none)) else (some true)
def impl_runOk.l2 : Nat → List (List Int) → Int → Int → List Int → Int → Int → Option (Bool)
 | 0, _, _, _, _, _, _ => none
 | k + 1, x49, x50, x51, x58, x59, x60 => if x60 < x59 then (if 0 ≤ x60 then (if x60 < (x58.length : Int) then ((impl_in.f (rd x58 x60) 1 1000).bind fun t881 => (if t881 = true then (impl_runOk.l2 k x49 x50 x51 x58 x59 (wrap64 (x60 + 1))) else (some false))) else (none)) else (none)) else (impl_runOk.l1 k x49 x50 (wrap64 (x51 + 1)))
end
def impl_runOk.f (k : Nat) (a0_0 : Int) (a0_1 : Int) (a0_2 : Int) (l1 : List (S84)) (l2 : List (List Int)) (a3 : Int) : Option (Bool) := (impl_RulesOk.f a0_0 a0_1 a0_2).bind fun t874 => (if t874 = true then ((impl_in.f a3 0 2000).bind fun t875 => (if t875 = true then (if (l1.length : Int) > 200 then (impl_runOk.j0 k l1 l2 a3 true) else (impl_runOk.j0 k l1 l2 a3 (decide ((l2.length : Int) > 5000)))) else (impl_runOk.j0 k l1 l2 a3 true))) else (impl_runOk.j0 k l1 l2 a3 true))
set_option maxHeartbeats 8000000 in
set_option maxRecDepth 100000 in
theorem impl_runOk.calls (k : Nat) (a0_0 : Int) (a0_1 : Int) (a0_2 : Int) (A1 : Option Addr) (c1 : Nat) (l1 : List (S84)) (A2 : Option Addr) (c2 : Nat) (l2 : List (List Int)) (a3 : Int) (r : Bool) (w : World) (hr1 : Kd.C k84 w A1 l1.length l1) (hc1 : l1.length ≤ c1) (hr2 : Kd.C (Kd.slice 3 (Kd.int .i64)) w A2 l2.length l2) (hc2 : l2.length ≤ c2) (h : impl_runOk.f k a0_0 a0_1 a0_2 l1 l2 a3 = some r) :
  Calls Try.prog 84 #[.agg #[.int .i64 a0_0, .int .i64 a0_1, .int .i64 a0_2], .slice A1 l1.length c1, .slice A2 l2.length c2, .int .i64 a3] w fun e w' => e = .returned (.bool r) ∧ Below w.heap.size w w' := by
 have hu34 := Try.underlying34
 have hu84 := Try.underlying84
 have HR1 := Aside0.mk hr1
 have HC1 := Aside0.mk hc1
 clear hr1 hc1
 have HR2 := Aside0.mk hr2
 have HC2 := Aside0.mk hc2
 clear hr2 hc2
 have HB := Aside0.mk (Below.refl w.heap.size w)
 have H : ((impl_RulesOk.f a0_0 a0_1 a0_2).bind fun t874 => (if t874 = true then ((impl_in.f a3 0 2000).bind fun t875 => (if t875 = true then (if (l1.length : Int) > 200 then (impl_runOk.j0 k l1 l2 a3 true) else (impl_runOk.j0 k l1 l2 a3 (decide ((l2.length : Int) > 5000)))) else (impl_runOk.j0 k l1 l2 a3 true))) else (impl_runOk.j0 k l1 l2 a3 true))) = some r := h
 clear h
 have HC5 := Aside0.mk H
 clear H
 go_enter Try.func84, Try.ntmps84
 go_upto_region 1 with (first | ((with_reducible refine gate_dst (N := 4) rfl ?_); (try (refine gate_guard (by rfl) ?_; dsimp only)); refine boxA #[.int .i64 a0_0, .int .i64 a0_1, .int .i64 a0_2] 34 ?_; intro gb873 hg w6 hbox hb; have BK873 := Aside0.mk (hbox); have GW873 := nge HB hg; have GE873 := nge HB hg; replace HB := bst HB hb; clear hb hbox hg))
 (try simp only [Act.put, List.setIfInBounds_toArray, List.set_cons_zero, List.set_cons_succ])
 go_cut [33] (fun v33 wc => ∃ (kq : Nat) (x33_4 : Bool), v33 = .bool x33_4 ∧ Aside0 (impl_runOk.j0 kq l1 l2 a3 x33_4 = some r) ∧ Aside0 (kq ≤ k) ∧ Aside0 (wc.heap[gb873]? = some (.cells #[.int .i64 a0_0, .int .i64 a0_1, .int .i64 a0_2] 34 (0, 0))) ∧ Aside0 (Below w.heap.size w wc))
 case first =>
  have H := HC5.out
  clear HC5
  replace H := Option.bind_eq_some_iff.mp H
  obtain ⟨t874, A70, H⟩ := H
  replace H : (if t874 = true then ((impl_in.f a3 0 2000).bind fun t875 => (if t875 = true then (if (l1.length : Int) > 200 then (impl_runOk.j0 k l1 l2 a3 true) else (impl_runOk.j0 k l1 l2 a3 (decide ((l2.length : Int) > 5000)))) else (impl_runOk.j0 k l1 l2 a3 true))) else (impl_runOk.j0 k l1 l2 a3 true)) = some r := H
  have A7 := Aside0.mk A70
  clear A70
  by_cases c8 : t874 = true
  ·subst c8
   have H1 : ((impl_in.f a3 0 2000).bind fun t875 => (if t875 = true then (if (l1.length : Int) > 200 then (impl_runOk.j0 k l1 l2 a3 true) else (impl_runOk.j0 k l1 l2 a3 (decide ((l2.length : Int) > 5000)))) else (impl_runOk.j0 k l1 l2 a3 true))) = some r := by rw [if_pos rfl] at H; exact H
   clear H; have H := H1; clear H1
   replace H := Option.bind_eq_some_iff.mp H
   obtain ⟨t875, A90, H⟩ := H
   replace H : (if t875 = true then (if (l1.length : Int) > 200 then (impl_runOk.j0 k l1 l2 a3 true) else (impl_runOk.j0 k l1 l2 a3 (decide ((l2.length : Int) > 5000)))) else (impl_runOk.j0 k l1 l2 a3 true)) = some r := H
   have A9 := Aside0.mk A90
   clear A90
   by_cases c10 : t875 = true
   ·subst c10
    have H1 : (if (l1.length : Int) > 200 then (impl_runOk.j0 k l1 l2 a3 true) else (impl_runOk.j0 k l1 l2 a3 (decide ((l2.length : Int) > 5000)))) = some r := by rw [if_pos rfl] at H; exact H
    clear H; have H := H1; clear H1
    by_cases c11 : (l1.length : Int) > 200
    ·rw [if_pos c11] at H
     have c11b0 : decide (200 < (l1.length : Int)) = true := decide_eq_true c11
     have c11b1 : decide (200 < l1.length) = true := decide_eq_true (by omega)
     clear c11
     (first | rw [c11b0] | (simp only [i64_w, i32_w]; rw [c11b0]) | skip)
     have H' := Aside0.mk H
     clear H
     have hcz12_0 := b0 BK873
     have hcz12_1 := b1 BK873
     have hcz12_2 := b2 BK873
     have hfz12_0 := blk_frozen BK873.out 0
     have hfz12_1 := blk_frozen BK873.out 1
     have hfz12_2 := blk_frozen BK873.out 2
     go_wp2_with (first | ((with_reducible refine gate_callee (f := 58) rfl ?_); refine goesLA (some 17) rfl Try.func58 #[.agg #[.int .i64 a0_0, .int .i64 a0_1, .int .i64 a0_2]] ?_; (with_reducible refine (impl_RulesOk.calls a0_0 a0_1 a0_2 true _ A7.out).mono ?_); rintro e w13 ⟨rfl, hb⟩; refine ⟨_, rfl, ?_⟩; replace BK873 := bkb BK873 hb; replace HB := bst HB hb; clear hb) | (go_at_call 95; (with_reducible refine (impl_in.calls a3 0 2000 true _ A9.out).mono ?_); rintro e w' ⟨rfl, ⟨nd, rfl⟩⟩))
     go_meet
     case rel => exact ⟨_, (true), (by first | rfl | (simp; done) | (simp [*]; done)), H', ⟨by first | omega | exact Nat.le_refl _⟩, ⟨qb BK873⟩, ⟨(qs HB)⟩⟩
    rw [if_neg c11] at H
    have c11b0 : decide (200 < (l1.length : Int)) = false := decide_eq_false c11
    have c11b1 : decide (200 < l1.length) = false := decide_eq_false (by omega)
    clear c11
    (first | rw [c11b0] | (simp only [i64_w, i32_w]; rw [c11b0]) | skip)
    have H' := Aside0.mk H
    clear H
    have hcz14_0 := b0 BK873
    have hcz14_1 := b1 BK873
    have hcz14_2 := b2 BK873
    have hfz14_0 := blk_frozen BK873.out 0
    have hfz14_1 := blk_frozen BK873.out 1
    have hfz14_2 := blk_frozen BK873.out 2
    go_wp2_with (first | ((with_reducible refine gate_callee (f := 58) rfl ?_); refine goesLA (some 17) rfl Try.func58 #[.agg #[.int .i64 a0_0, .int .i64 a0_1, .int .i64 a0_2]] ?_; (with_reducible refine (impl_RulesOk.calls a0_0 a0_1 a0_2 true _ A7.out).mono ?_); rintro e w15 ⟨rfl, hb⟩; refine ⟨_, rfl, ?_⟩; replace BK873 := bkb BK873 hb; replace HB := bst HB hb; clear hb) | (go_at_call 95; (with_reducible refine (impl_in.calls a3 0 2000 true _ A9.out).mono ?_); rintro e w' ⟨rfl, ⟨nd, rfl⟩⟩))
    go_meet
    case rel => exact ⟨_, (decide ((l2.length : Int) > 5000)), (by first | rfl | (simp; done) | (simp [*]; done)), H', ⟨by first | omega | exact Nat.le_refl _⟩, ⟨qb BK873⟩, ⟨(qs HB)⟩⟩
   replace c10 := Bool.eq_false_iff.mpr c10
   subst c10
   have H1 : (impl_runOk.j0 k l1 l2 a3 true) = some r := by rw [if_neg (show ¬ (false = true) by decide)] at H; exact H
   clear H; have H := H1; clear H1
   have H' := Aside0.mk H
   clear H
   have hcz16_0 := b0 BK873
   have hcz16_1 := b1 BK873
   have hcz16_2 := b2 BK873
   have hfz16_0 := blk_frozen BK873.out 0
   have hfz16_1 := blk_frozen BK873.out 1
   have hfz16_2 := blk_frozen BK873.out 2
   go_wp2_with (first | ((with_reducible refine gate_callee (f := 58) rfl ?_); refine goesLA (some 17) rfl Try.func58 #[.agg #[.int .i64 a0_0, .int .i64 a0_1, .int .i64 a0_2]] ?_; (with_reducible refine (impl_RulesOk.calls a0_0 a0_1 a0_2 true _ A7.out).mono ?_); rintro e w17 ⟨rfl, hb⟩; refine ⟨_, rfl, ?_⟩; replace BK873 := bkb BK873 hb; replace HB := bst HB hb; clear hb) | (go_at_call 95; (with_reducible refine (impl_in.calls a3 0 2000 false _ A9.out).mono ?_); rintro e w' ⟨rfl, ⟨nd, rfl⟩⟩))
   go_meet
   case rel => exact ⟨_, (true), (by first | rfl | (simp; done) | (simp [*]; done)), H', ⟨by first | omega | exact Nat.le_refl _⟩, ⟨qb BK873⟩, ⟨(qs HB)⟩⟩
  replace c8 := Bool.eq_false_iff.mpr c8
  subst c8
  have H1 : (impl_runOk.j0 k l1 l2 a3 true) = some r := by rw [if_neg (show ¬ (false = true) by decide)] at H; exact H
  clear H; have H := H1; clear H1
  have H' := Aside0.mk H
  clear H
  have hcz18_0 := b0 BK873
  have hcz18_1 := b1 BK873
  have hcz18_2 := b2 BK873
  have hfz18_0 := blk_frozen BK873.out 0
  have hfz18_1 := blk_frozen BK873.out 1
  have hfz18_2 := blk_frozen BK873.out 2
  go_wp2_with (first | ((with_reducible refine gate_callee (f := 58) rfl ?_); refine goesLA (some 17) rfl Try.func58 #[.agg #[.int .i64 a0_0, .int .i64 a0_1, .int .i64 a0_2]] ?_; (with_reducible refine (impl_RulesOk.calls a0_0 a0_1 a0_2 false _ A7.out).mono ?_); rintro e w19 ⟨rfl, hb⟩; refine ⟨_, rfl, ?_⟩; replace BK873 := bkb BK873 hb; replace HB := bst HB hb; clear hb))
  go_meet
  case rel => exact ⟨_, (true), (by first | rfl | (simp; done) | (simp [*]; done)), H', ⟨by first | omega | exact Nat.le_refl _⟩, ⟨qb BK873⟩, ⟨(qs HB)⟩⟩
 case rest =>
  clear HC5
  try clear c1; try clear c2; try clear p2; try clear c5; try clear c8; try clear c10; try clear c11; try clear c11b0; try clear c11b1; try clear hcz12_0; try clear hcz12_1; try clear hcz12_2; try clear hcz14_0; try clear hcz14_1; try clear hcz14_2; try clear hcz16_0; try clear hcz16_1; try clear hcz16_2; try clear hcz18_0; try clear hcz18_1; try clear hcz18_2; try clear hfz12_0; try clear hfz12_1; try clear hfz12_2; try clear hfz14_0; try clear hfz14_1; try clear hfz14_2; try clear hfz16_0; try clear hfz16_1; try clear hfz16_2; try clear hfz18_0; try clear hfz18_1; try clear hfz18_2
  obtain ⟨kq, x33_4, rfl, HA, HJ4, BK873, HB⟩ := hcut
  cases kq with
  | zero => exact absurd HA.out (by simp [impl_runOk.j0])
  | succ kj4 =>
   have H := HA.out
   clear HA
   simp only [impl_runOk.j0] at H
   by_cases c20 : x33_4 = true
   ·subst c20
    have H1 : (some false) = some r := by rw [if_pos rfl] at H; exact H
    clear H; have H := H1; clear H1
    obtain rfl := Option.some.inj H
    go_wp2
    go_ret
    exact ⟨by first | rfl | (simp [errW_none, errW_some] <;> rfl) | (simp [*, errW_none, errW_some] <;> rfl), (qs HB)⟩
   replace c20 := Bool.eq_false_iff.mpr c20
   subst c20
   have H1 : (impl_runOk.l0 kj4 l2 a3 1 l1 (l1.length : Int) 0) = some r := by rw [if_neg (show ¬ (false = true) by decide)] at H; exact H
   clear H; have H := H1; clear H1
   have H' := Aside0.mk H
   clear H
   go_wp2
   go_loopg [9, 36] kj4 (fun kq v9 v36 w' => ∃ (x9_2 : Int) (x36_2 : Int), v9 = .int .i64 x9_2 ∧ v36 = .int .i64 x36_2 ∧ Aside0 (impl_runOk.l0 kq l2 a3 x9_2 l1 (l1.length : Int) x36_2 = some r) ∧ Aside0 (kq ≤ kj4) ∧ Aside0 (w'.heap[gb873]? = some (.cells #[.int .i64 a0_0, .int .i64 a0_1, .int .i64 a0_2] 34 (0, 0))) ∧ Aside0 (Below w.heap.size w w'))
   case atStart => exact ⟨(1), (0), (by first | rfl | (simp; done) | (simp [*]; done)), (by first | rfl | (simp; done) | (simp [*]; done)), H', ⟨Nat.le_refl _⟩, ⟨qb BK873⟩, ⟨(qs HB)⟩⟩
   case round =>
    clear H'
    try clear c1; try clear c2; try clear p2; try clear c5; try clear c8; try clear c10; try clear c11; try clear c11b0; try clear c11b1; try clear c20; try clear hcz12_0; try clear hcz12_1; try clear hcz12_2; try clear hcz14_0; try clear hcz14_1; try clear hcz14_2; try clear hcz16_0; try clear hcz16_1; try clear hcz16_2; try clear hcz18_0; try clear hcz18_1; try clear hcz18_2; try clear hfz12_0; try clear hfz12_1; try clear hfz12_2; try clear hfz14_0; try clear hfz14_1; try clear hfz14_2; try clear hfz16_0; try clear hfz16_1; try clear hfz16_2; try clear hfz18_0; try clear hfz18_1; try clear hfz18_2; try clear p2
    obtain ⟨x9_2, x36_2, rfl, rfl, HA, HK2, BK873, HB⟩ := hrel
    cases gk with
    | zero => exact absurd HA.out (by simp [impl_runOk.l0])
    | succ k2 =>
     have H := HA.out
     clear HA
     simp only [impl_runOk.l0] at H
     by_cases c21 : x36_2 < (l1.length : Int)
     ·rw [if_pos c21] at H
      have c21b0 : decide (x36_2 < (l1.length : Int)) = true := decide_eq_true c21
      clear c21
      by_cases c22 : 0 ≤ x36_2
      ·rw [if_pos c22] at H
       have c22b0 : decide (0 ≤ x36_2) = true := decide_eq_true c22
       clear c22
       by_cases c23 : x36_2 < (l1.length : Int)
       ·rw [if_pos c23] at H
        have c23b0 : decide (x36_2 < (l1.length : Int)) = true := decide_eq_true c23
        clear c23
        replace H := Option.bind_eq_some_iff.mp H
        obtain ⟨t878, A240, H⟩ := H
        replace H : (if t878 = true then (impl_runOk.l0 k2 l2 a3 ((rd_T84 l1 x36_2).f0) l1 (l1.length : Int) (wrap64 (x36_2 + 1))) else (some false)) = some r := H
        have A24 := Aside0.mk A240
        clear A240
        by_cases c25 : t878 = true
        ·subst c25
         have H1 : (impl_runOk.l0 k2 l2 a3 ((rd_T84 l1 x36_2).f0) l1 (l1.length : Int) (wrap64 (x36_2 + 1))) = some r := by rw [if_pos rfl] at H; exact H
         clear H; have H := H1; clear H1
         have H' := Aside0.mk H
         clear H
         have p876 : 0 ≤ (x36_2 : Int) := of_decide_eq_true (by first | (with_reducible assumption) | assumption)
         have q876 : x36_2 < (l1.length : Int) := of_decide_eq_true (by first | (with_reducible assumption) | assumption)
         obtain ⟨ad876, e876, hx876_0, hx876_1⟩ := at_T84 HR1.out x36_2 p876 q876
         cases e876
         replace hx876_0 := (HB.out.cell (World.block_lt_of_cell? w _ hx876_0)).trans hx876_0
         replace hx876_1 := (HB.out.cell (World.block_lt_of_cell? w _ hx876_1)).trans hx876_1
         replace p876 := eq_true p876
         replace q876 := eq_true q876
         go_wp2_with (first | ((with_reducible refine gate_dst (N := 11) rfl ?_); (try (refine gate_guard (by rfl) ?_; dsimp only)); refine boxA #[.int .i64 0, .int .i64 0] 84 ?_; intro gb877 hg w26 hbox hb; have BK877 := Aside0.mk (hbox); have GW877 := nge HB hg; have GE877 := nge HB hg; replace HB := bst HB hb; have NB873_877 := nlt BK873 hg; have NB877_873 := ngt BK873 hg; replace BK873 := bkb BK873 hb; clear hb hbox hg; have hnb27 := NB877_873.out; have hnc27 := NB873_877.out; have hcz28_0 := b0 BK877; have hcz28_1 := b1 BK877; have hfz28_0 := blk_frozen BK877.out 0; have hfz28_1 := blk_frozen BK877.out 1) | ((with_reducible refine gate_callee (f := 95) rfl ?_); refine goesLA (some 44) rfl Try.func95 #[.int .i64 ((rd_T84 l1 x36_2).f0), .int .i64 x9_2, .int .i64 a3] ?_; (with_reducible refine (impl_in.calls ((rd_T84 l1 x36_2).f0) x9_2 a3 true _ A24.out).mono ?_); rintro e w' ⟨rfl, ⟨nd, rfl⟩⟩; refine ⟨_, rfl, ?_⟩))
         go_roundg k2
         case measure => have := HJ4.out; have := HK2.out; omega
         case rel => exact ⟨((rd_T84 l1 x36_2).f0), (wrap64 (x36_2 + 1)), (by first | rfl | (simp; done) | (simp [*]; done)), (by first | rfl | (simp; done) | (simp [*]; done)), H', ⟨by have := HJ4.out; have := HK2.out; omega⟩, ⟨qB BK873⟩, ⟨(qs HB)⟩⟩
        replace c25 := Bool.eq_false_iff.mpr c25
        subst c25
        have H1 : (some false) = some r := by rw [if_neg (show ¬ (false = true) by decide)] at H; exact H
        clear H; have H := H1; clear H1
        obtain rfl := Option.some.inj H
        have p876 : 0 ≤ (x36_2 : Int) := of_decide_eq_true (by first | (with_reducible assumption) | assumption)
        have q876 : x36_2 < (l1.length : Int) := of_decide_eq_true (by first | (with_reducible assumption) | assumption)
        obtain ⟨ad876, e876, hx876_0, hx876_1⟩ := at_T84 HR1.out x36_2 p876 q876
        cases e876
        replace hx876_0 := (HB.out.cell (World.block_lt_of_cell? w _ hx876_0)).trans hx876_0
        replace hx876_1 := (HB.out.cell (World.block_lt_of_cell? w _ hx876_1)).trans hx876_1
        replace p876 := eq_true p876
        replace q876 := eq_true q876
        go_wp2_with (first | ((with_reducible refine gate_dst (N := 11) rfl ?_); (try (refine gate_guard (by rfl) ?_; dsimp only)); refine boxA #[.int .i64 0, .int .i64 0] 84 ?_; intro gb877 hg w29 hbox hb; have BK877 := Aside0.mk (hbox); have GW877 := nge HB hg; have GE877 := nge HB hg; replace HB := bst HB hb; have NB873_877 := nlt BK873 hg; have NB877_873 := ngt BK873 hg; replace BK873 := bkb BK873 hb; clear hb hbox hg; have hnb30 := NB877_873.out; have hnc30 := NB873_877.out; have hcz31_0 := b0 BK877; have hcz31_1 := b1 BK877; have hfz31_0 := blk_frozen BK877.out 0; have hfz31_1 := blk_frozen BK877.out 1) | ((with_reducible refine gate_callee (f := 95) rfl ?_); refine goesLA (some 44) rfl Try.func95 #[.int .i64 ((rd_T84 l1 x36_2).f0), .int .i64 x9_2, .int .i64 a3] ?_; (with_reducible refine (impl_in.calls ((rd_T84 l1 x36_2).f0) x9_2 a3 false _ A24.out).mono ?_); rintro e w' ⟨rfl, ⟨nd, rfl⟩⟩; refine ⟨_, rfl, ?_⟩))
        go_ret
        exact ⟨by first | rfl | (simp [errW_none, errW_some] <;> rfl) | (simp [*, errW_none, errW_some] <;> rfl), (qs HB)⟩
       rw [if_neg c23] at H
       exact absurd H (by simp)
      rw [if_neg c22] at H
      exact absurd H (by simp)
     rw [if_neg c21] at H
     have c21b0 : decide (x36_2 < (l1.length : Int)) = false := decide_eq_false c21
     clear c21
     have H' := Aside0.mk H
     clear H
     go_wp2
     go_loopg [51] k2 (fun kq v51 w' => ∃ (x51_3 : Int), v51 = .int .i64 x51_3 ∧ Aside0 (impl_runOk.l1 kq l2 (l2.length : Int) x51_3 = some r) ∧ Aside0 (kq ≤ k2) ∧ Aside0 (w'.heap[gb873]? = some (.cells #[.int .i64 a0_0, .int .i64 a0_1, .int .i64 a0_2] 34 (0, 0))) ∧ Aside0 (Below w.heap.size w w'))
     case atStart => exact ⟨(0), (by first | rfl | (simp; done) | (simp [*]; done)), H', ⟨Nat.le_refl _⟩, ⟨qb BK873⟩, ⟨(qs HB)⟩⟩
     case round =>
      clear H'
      try clear c1; try clear c2; try clear p2; try clear c3; try clear c5; try clear p6; try clear c8; try clear p8; try clear q8; try clear hx8; try clear c9; try clear c10; try clear c11; try clear c11b0; try clear c11b1; try clear c20; try clear c21; try clear c21b0; try clear c22; try clear c22b0; try clear c23; try clear c23b0; try clear c25; try clear c27; try clear c30; try clear hcz12_0; try clear hcz12_1; try clear hcz12_2; try clear hcz14_0; try clear hcz14_1; try clear hcz14_2; try clear hcz16_0; try clear hcz16_1; try clear hcz16_2; try clear hcz18_0; try clear hcz18_1; try clear hcz18_2; try clear hcz28_0; try clear hcz28_1; try clear hcz31_0; try clear hcz31_1; try clear hfz12_0; try clear hfz12_1; try clear hfz12_2; try clear hfz14_0; try clear hfz14_1; try clear hfz14_2; try clear hfz16_0; try clear hfz16_1; try clear hfz16_2; try clear hfz18_0; try clear hfz18_1; try clear hfz18_2; try clear hfz28_0; try clear hfz28_1; try clear hfz31_0; try clear hfz31_1; try clear hx876_0; try clear hx876_1; try clear p2; try clear p876; try clear q876
      obtain ⟨x51_3, rfl, HA, HK3, BK873, HB⟩ := hrel
      cases gk with
      | zero => exact absurd HA.out (by simp [impl_runOk.l1])
      | succ k3 =>
       have H := HA.out
       clear HA
       simp only [impl_runOk.l1] at H
       by_cases c32 : x51_3 < (l2.length : Int)
       ·rw [if_pos c32] at H
        have c32b0 : decide (x51_3 < (l2.length : Int)) = true := decide_eq_true c32
        clear c32
        by_cases c33 : 0 ≤ x51_3
        ·rw [if_pos c33] at H
         have c33b0 : decide (0 ≤ x51_3) = true := decide_eq_true c33
         clear c33
         by_cases c34 : x51_3 < (l2.length : Int)
         ·rw [if_pos c34] at H
          have c34b0 : decide (x51_3 < (l2.length : Int)) = true := decide_eq_true c34
          clear c34
          by_cases c35 : ((rd_L5 l2 x51_3).length : Int) > 10
          ·rw [if_pos c35] at H
           have c35b0 : decide (10 < ((rd_L5 l2 x51_3).length : Int)) = true := decide_eq_true c35
           have c35b1 : decide (10 < (rd_L5 l2 x51_3).length) = true := decide_eq_true (by omega)
           clear c35
           obtain rfl := Option.some.inj H
           have p879 : 0 ≤ (x51_3 : Int) := of_decide_eq_true (by first | (with_reducible assumption) | assumption)
           have q879 : x51_3 < (l2.length : Int) := of_decide_eq_true (by first | (with_reducible assumption) | assumption)
           obtain ⟨ad879, A879_0, c879_0, e879, hx879_0, hl879_0, hi879_0⟩ := at_L5 HR2.out x51_3 p879 q879
           cases e879
           replace hx879_0 := (HB.out.cell (World.block_lt_of_cell? w _ hx879_0)).trans hx879_0
           have HR879_0 := Aside0.mk hi879_0
           have HC879_0 := Aside0.mk hl879_0
           clear hi879_0 hl879_0
           replace p879 := eq_true p879
           replace q879 := eq_true q879
           go_wp2
           go_ret
           exact ⟨by first | rfl | (simp [errW_none, errW_some] <;> rfl) | (simp [*, errW_none, errW_some] <;> rfl), (qs HB)⟩
          rw [if_neg c35] at H
          have c35b0 : decide (10 < ((rd_L5 l2 x51_3).length : Int)) = false := decide_eq_false c35
          have c35b1 : decide (10 < (rd_L5 l2 x51_3).length) = false := decide_eq_false (by omega)
          clear c35
          have H' := Aside0.mk H
          clear H
          have p879 : 0 ≤ (x51_3 : Int) := of_decide_eq_true (by first | (with_reducible assumption) | assumption)
          have q879 : x51_3 < (l2.length : Int) := of_decide_eq_true (by first | (with_reducible assumption) | assumption)
          obtain ⟨ad879, A879_0, c879_0, e879, hx879_0, hl879_0, hi879_0⟩ := at_L5 HR2.out x51_3 p879 q879
          cases e879
          replace hx879_0 := (HB.out.cell (World.block_lt_of_cell? w _ hx879_0)).trans hx879_0
          have HR879_0 := Aside0.mk hi879_0
          have HC879_0 := Aside0.mk hl879_0
          clear hi879_0 hl879_0
          replace p879 := eq_true p879
          replace q879 := eq_true q879
          go_wp2
          go_loopg [60] k3 (fun kq v60 w' => ∃ (x60_4 : Int), v60 = .int .i64 x60_4 ∧ Aside0 (impl_runOk.l2 kq l2 (l2.length : Int) x51_3 (rd_L5 l2 x51_3) ((rd_L5 l2 x51_3).length : Int) x60_4 = some r) ∧ Aside0 (kq ≤ k3) ∧ Aside0 (w'.heap[gb873]? = some (.cells #[.int .i64 a0_0, .int .i64 a0_1, .int .i64 a0_2] 34 (0, 0))) ∧ Aside0 (Below w.heap.size w w'))
          case atStart => exact ⟨(0), (by first | rfl | (simp; done) | (simp [*]; done)), H', ⟨Nat.le_refl _⟩, ⟨qb BK873⟩, ⟨(qs HB)⟩⟩
          case round =>
           clear H'
           try clear c1; try clear c2; try clear p2; try clear c3; try clear c5; try clear p6; try clear c8; try clear p8; try clear q8; try clear hx8; try clear c9; try clear c10; try clear c11; try clear c11b0; try clear c11b1; try clear c20; try clear c21; try clear c21b0; try clear c22; try clear c22b0; try clear c23; try clear c23b0; try clear c25; try clear c27; try clear c30; try clear c32; try clear c32b0; try clear c33; try clear c33b0; try clear c34; try clear c34b0; try clear c35; try clear c35b0; try clear c35b1; try clear hcz12_0; try clear hcz12_1; try clear hcz12_2; try clear hcz14_0; try clear hcz14_1; try clear hcz14_2; try clear hcz16_0; try clear hcz16_1; try clear hcz16_2; try clear hcz18_0; try clear hcz18_1; try clear hcz18_2; try clear hcz28_0; try clear hcz28_1; try clear hcz31_0; try clear hcz31_1; try clear hfz12_0; try clear hfz12_1; try clear hfz12_2; try clear hfz14_0; try clear hfz14_1; try clear hfz14_2; try clear hfz16_0; try clear hfz16_1; try clear hfz16_2; try clear hfz18_0; try clear hfz18_1; try clear hfz18_2; try clear hfz28_0; try clear hfz28_1; try clear hfz31_0; try clear hfz31_1; try clear hx876_0; try clear hx876_1; try clear hx879_0; try clear p2; try clear p6; try clear p8; try clear p876; try clear p879; try clear q8; try clear q876; try clear q879
           obtain ⟨x60_4, rfl, HA, HK4, BK873, HB⟩ := hrel
           cases gk with
           | zero => exact absurd HA.out (by simp [impl_runOk.l2])
           | succ k4 =>
            have H := HA.out
            clear HA
            simp only [impl_runOk.l2] at H
            by_cases c36 : x60_4 < ((rd_L5 l2 x51_3).length : Int)
            ·rw [if_pos c36] at H
             have c36b0 : decide (x60_4 < ((rd_L5 l2 x51_3).length : Int)) = true := decide_eq_true c36
             clear c36
             by_cases c37 : 0 ≤ x60_4
             ·rw [if_pos c37] at H
              have c37b0 : decide (0 ≤ x60_4) = true := decide_eq_true c37
              clear c37
              by_cases c38 : x60_4 < ((rd_L5 l2 x51_3).length : Int)
              ·rw [if_pos c38] at H
               have c38b0 : decide (x60_4 < ((rd_L5 l2 x51_3).length : Int)) = true := decide_eq_true c38
               clear c38
               replace H := Option.bind_eq_some_iff.mp H
               obtain ⟨t881, A390, H⟩ := H
               replace H : (if t881 = true then (impl_runOk.l2 k4 l2 (l2.length : Int) x51_3 (rd_L5 l2 x51_3) ((rd_L5 l2 x51_3).length : Int) (wrap64 (x60_4 + 1))) else (some false)) = some r := H
               have A39 := Aside0.mk A390
               clear A390
               by_cases c40 : t881 = true
               ·subst c40
                have H1 : (impl_runOk.l2 k4 l2 (l2.length : Int) x51_3 (rd_L5 l2 x51_3) ((rd_L5 l2 x51_3).length : Int) (wrap64 (x60_4 + 1))) = some r := by rw [if_pos rfl] at H; exact H
                clear H; have H := H1; clear H1
                have H' := Aside0.mk H
                clear H
                have p880 : 0 ≤ (x60_4 : Int) := of_decide_eq_true (by first | (with_reducible assumption) | assumption)
                have q880 : x60_4 < ((rd_L5 l2 x51_3).length : Int) := of_decide_eq_true (by first | (with_reducible assumption) | assumption)
                obtain ⟨ad880, e880, hx880_0⟩ := Kd.at_int HR879_0.out x60_4 p880 q880
                cases e880
                replace hx880_0 := (HB.out.cell (World.block_lt_of_cell? w _ hx880_0)).trans hx880_0
                replace p880 := eq_true p880
                replace q880 := eq_true q880
                go_wp2_with (first | ((with_reducible refine gate_callee (f := 95) rfl ?_); refine goesLA (some 65) rfl Try.func95 #[.int .i64 (rd (rd_L5 l2 x51_3) x60_4), .int .i64 1, .int .i64 1000] ?_; (with_reducible refine (impl_in.calls (rd (rd_L5 l2 x51_3) x60_4) 1 1000 true _ A39.out).mono ?_); rintro e w' ⟨rfl, ⟨nd, rfl⟩⟩; refine ⟨_, rfl, ?_⟩))
                go_roundg k4
                case measure => have := HJ4.out; have := HK2.out; have := HK3.out; have := HK4.out; omega
                case rel => exact ⟨(wrap64 (x60_4 + 1)), (by first | rfl | (simp; done) | (simp [*]; done)), H', ⟨by have := HJ4.out; have := HK2.out; have := HK3.out; have := HK4.out; omega⟩, ⟨qb BK873⟩, ⟨(qs HB)⟩⟩
               replace c40 := Bool.eq_false_iff.mpr c40
               subst c40
               have H1 : (some false) = some r := by rw [if_neg (show ¬ (false = true) by decide)] at H; exact H
               clear H; have H := H1; clear H1
               obtain rfl := Option.some.inj H
               have p880 : 0 ≤ (x60_4 : Int) := of_decide_eq_true (by first | (with_reducible assumption) | assumption)
               have q880 : x60_4 < ((rd_L5 l2 x51_3).length : Int) := of_decide_eq_true (by first | (with_reducible assumption) | assumption)
               obtain ⟨ad880, e880, hx880_0⟩ := Kd.at_int HR879_0.out x60_4 p880 q880
               cases e880
               replace hx880_0 := (HB.out.cell (World.block_lt_of_cell? w _ hx880_0)).trans hx880_0
               replace p880 := eq_true p880
               replace q880 := eq_true q880
               go_wp2_with (first | ((with_reducible refine gate_callee (f := 95) rfl ?_); refine goesLA (some 65) rfl Try.func95 #[.int .i64 (rd (rd_L5 l2 x51_3) x60_4), .int .i64 1, .int .i64 1000] ?_; (with_reducible refine (impl_in.calls (rd (rd_L5 l2 x51_3) x60_4) 1 1000 false _ A39.out).mono ?_); rintro e w' ⟨rfl, ⟨nd, rfl⟩⟩; refine ⟨_, rfl, ?_⟩))
               go_ret
               exact ⟨by first | rfl | (simp [errW_none, errW_some] <;> rfl) | (simp [*, errW_none, errW_some] <;> rfl), (qs HB)⟩
              rw [if_neg c38] at H
              exact absurd H (by simp)
             rw [if_neg c37] at H
             exact absurd H (by simp)
            rw [if_neg c36] at H
            have c36b0 : decide (x60_4 < ((rd_L5 l2 x51_3).length : Int)) = false := decide_eq_false c36
            clear c36
            have H' := Aside0.mk H
            clear H
            go_wp2
            go_roundg k4
            case measure => have := HJ4.out; have := HK2.out; have := HK3.out; have := HK4.out; omega
            case rel => exact ⟨(wrap64 (x51_3 + 1)), (by first | rfl | (simp; done) | (simp [*]; done)), H', ⟨by have := HJ4.out; have := HK2.out; have := HK3.out; have := HK4.out; omega⟩, ⟨qb BK873⟩, ⟨(qs HB)⟩⟩
         rw [if_neg c34] at H
         exact absurd H (by simp)
        rw [if_neg c33] at H
        exact absurd H (by simp)
       rw [if_neg c32] at H
       have c32b0 : decide (x51_3 < (l2.length : Int)) = false := decide_eq_false c32
       clear c32
       obtain rfl := Option.some.inj H
       go_wp2
       go_ret
       exact ⟨by first | rfl | (simp [errW_none, errW_some] <;> rfl) | (simp [*, errW_none, errW_some] <;> rfl), (qs HB)⟩
end Go.Proofs.Ytndffnacbfdnoaa.PAll
