-- Lines of PAllx32 that this claim uses.
import Derived.Test.YtndffnacbfdnoaaTWSqd
import Derived.Test.YtndffnacbfdnoaaTWSq
import Derived.Test.YtndffnacbfdnoaaTWPAllx0
import Derived.Test.YtndffnacbfdnoaaTWPAllx4
import Derived.Test.YtndffnacbfdnoaaTWPAllx22
import Derived.Test.YtndffnacbfdnoaaTWPAllx26
import Derived.Test.YtndffnacbfdnoaaTWRun
namespace Go.Proofs.Ytndffnacbfdnoaa.PAll
open Go.RowKit Go.Proofs.YtndffnacbfdnoaaW.PrintWords Go.Proofs.YtndffnacbfdnoaaW.PrintLast Go.Proofs.YtndffnacbfdnoaaW.PrintMore
attribute [local go_sem] max2_int min2_int max_two min_two max_three min_three max_four min_four   -- for this text's walks alone
set_option linter.unusedVariables false
set_option linter.unusedSimpArgs false
attribute [local go_sem high] eqA86
def laws_wMoments.l0 : Nat → List (S86) → List (S86) → Int → Int → Option (Bool)
 | 0, _, _, _, _ => none
 | k + 1, x0, x1, x12, x13 => if x13 < x12 then (if 0 ≤ x13 then (if x13 < (x0.length : Int) then (if x13 < (x1.length : Int) then (if ((!(((rd_T86 x0 x13).f0.f0) == ((rd_T86 x1 x13).f0.f0)) || (!(((rd_T86 x0 x13).f0.f1) == ((rd_T86 x1 x13).f0.f1)) || (!(((rd_T86 x0 x13).f0.f2) == ((rd_T86 x1 x13).f0.f2)) || (!(((rd_T86 x0 x13).f0.f3) == ((rd_T86 x1 x13).f0.f3)) || (!(((rd_T86 x0 x13).f0.f4) == ((rd_T86 x1 x13).f0.f4))))))) || ((!(((rd_T86 x0 x13).f1.f0) == ((rd_T86 x1 x13).f1.f0)) || (!(((rd_T86 x0 x13).f1.f1) == ((rd_T86 x1 x13).f1.f1)) || (!(((rd_T86 x0 x13).f1.f2) == ((rd_T86 x1 x13).f1.f2))))) || (!(((rd_T86 x0 x13).f2) == ((rd_T86 x1 x13).f2)) || (!(((rd_T86 x0 x13).f3) == ((rd_T86 x1 x13).f3)))))) = true then (some false) else (laws_wMoments.l0 k x0 x1 x12 (wrap64 (x13 + 1)))) else (none)) else (none)) else (none)) else (some true)
def laws_wMoments.f (k : Nat) (l0 : List (S86)) (l1 : List (S86)) : Option (Bool) := if (l0.length : Int) = (l1.length : Int) then (laws_wMoments.l0 k l0 l1 (l0.length : Int) 0) else (some false)
set_option maxHeartbeats 8000000 in
set_option maxRecDepth 100000 in
theorem laws_wMoments.calls (k : Nat) (A0 : Option Addr) (c0 : Nat) (l0 : List (S86)) (A1 : Option Addr) (c1 : Nat) (l1 : List (S86)) (r : Bool) (w : World) (hr0 : Kd.C k86 w A0 l0.length l0) (hc0 : l0.length ≤ c0) (hr1 : Kd.C k86 w A1 l1.length l1) (hc1 : l1.length ≤ c1) (h : laws_wMoments.f k l0 l1 = some r) :
  Calls Try.prog 53 #[.slice A0 l0.length c0, .slice A1 l1.length c1] w fun e w' => e = .returned (.bool r) ∧ Drawn0 w w' := by
 have hu86 := Try.underlying86
 have HR0 := Aside0.mk hr0
 have HC0 := Aside0.mk hc0
 clear hr0 hc0
 have HR1 := Aside0.mk hr1
 have HC1 := Aside0.mk hc1
 clear hr1 hc1
 have H : (if (l0.length : Int) = (l1.length : Int) then (laws_wMoments.l0 k l0 l1 (l0.length : Int) 0) else (some false)) = some r := h
 clear h
 by_cases c3 : (l0.length : Int) = (l1.length : Int)
 ·rw [if_pos c3] at H
  have c3b0 : ((l0.length : Int) == (l1.length : Int)) = true := beq_iff_eq.mpr c3
  have c3b1 : ((l0.length : Int) != (l1.length : Int)) = false := bne_eq_false_iff_eq.mpr c3
  have c3b2 : (l0.length == l1.length) = true := by first | simpa using c3 | (simp at c3 ⊢; omega)
  clear c3
  have H' := Aside0.mk H
  clear H
  go_enter Try.func53, Try.ntmps53
  go_wp2
  repeat (go_quiet (fail); try go_wp2)
  go_loopg [13] k (fun kq v13 w' => ∃ (x13_1 : Int), v13 = .int .i64 x13_1 ∧ Aside0 (laws_wMoments.l0 kq l0 l1 (l0.length : Int) x13_1 = some r) ∧ Aside0 (kq ≤ k) ∧ Drawn0 w w')
  case atStart => exact ⟨(0), (by first | rfl | (simp; done) | (simp [*]; done)), H', ⟨Nat.le_refl _⟩, by repeat (first | exact Drawn0.refl _ | apply Drawn0.step)⟩
  case round =>
   clear H'
   try clear c1; try clear p2; try clear c3; try clear c3b0; try clear c3b1; try clear c3b2
   obtain ⟨x13_1, rfl, HA, HK1, ⟨m1, rfl⟩⟩ := hrel
   cases gk with
   | zero => exact absurd HA.out (by simp [laws_wMoments.l0])
   | succ k1 =>
    have H := HA.out
    clear HA
    simp only [laws_wMoments.l0] at H
    by_cases c4 : x13_1 < (l0.length : Int)
    ·rw [if_pos c4] at H
     have c4b0 : decide (x13_1 < (l0.length : Int)) = true := decide_eq_true c4
     clear c4
     by_cases c5 : 0 ≤ x13_1
     ·rw [if_pos c5] at H
      have c5b0 : decide (0 ≤ x13_1) = true := decide_eq_true c5
      clear c5
      by_cases c6 : x13_1 < (l0.length : Int)
      ·rw [if_pos c6] at H
       have c6b0 : decide (x13_1 < (l0.length : Int)) = true := decide_eq_true c6
       clear c6
       by_cases c7 : x13_1 < (l1.length : Int)
       ·rw [if_pos c7] at H
        have c7b0 : decide (x13_1 < (l1.length : Int)) = true := decide_eq_true c7
        clear c7
        by_cases c8 : ((!(((rd_T86 l0 x13_1).f0.f0) == ((rd_T86 l1 x13_1).f0.f0)) || (!(((rd_T86 l0 x13_1).f0.f1) == ((rd_T86 l1 x13_1).f0.f1)) || (!(((rd_T86 l0 x13_1).f0.f2) == ((rd_T86 l1 x13_1).f0.f2)) || (!(((rd_T86 l0 x13_1).f0.f3) == ((rd_T86 l1 x13_1).f0.f3)) || (!(((rd_T86 l0 x13_1).f0.f4) == ((rd_T86 l1 x13_1).f0.f4))))))) || ((!(((rd_T86 l0 x13_1).f1.f0) == ((rd_T86 l1 x13_1).f1.f0)) || (!(((rd_T86 l0 x13_1).f1.f1) == ((rd_T86 l1 x13_1).f1.f1)) || (!(((rd_T86 l0 x13_1).f1.f2) == ((rd_T86 l1 x13_1).f1.f2))))) || (!(((rd_T86 l0 x13_1).f2) == ((rd_T86 l1 x13_1).f2)) || (!(((rd_T86 l0 x13_1).f3) == ((rd_T86 l1 x13_1).f3)))))) = true
        ·rw [if_pos c8] at H
         have c8b0 : ((!(((rd_T86 l0 x13_1).f0.f0) == ((rd_T86 l1 x13_1).f0.f0)) || (!(((rd_T86 l0 x13_1).f0.f1) == ((rd_T86 l1 x13_1).f0.f1)) || (!(((rd_T86 l0 x13_1).f0.f2) == ((rd_T86 l1 x13_1).f0.f2)) || (!(((rd_T86 l0 x13_1).f0.f3) == ((rd_T86 l1 x13_1).f0.f3)) || (!(((rd_T86 l0 x13_1).f0.f4) == ((rd_T86 l1 x13_1).f0.f4))))))) || ((!(((rd_T86 l0 x13_1).f1.f0) == ((rd_T86 l1 x13_1).f1.f0)) || (!(((rd_T86 l0 x13_1).f1.f1) == ((rd_T86 l1 x13_1).f1.f1)) || (!(((rd_T86 l0 x13_1).f1.f2) == ((rd_T86 l1 x13_1).f1.f2))))) || (!(((rd_T86 l0 x13_1).f2) == ((rd_T86 l1 x13_1).f2)) || (!(((rd_T86 l0 x13_1).f3) == ((rd_T86 l1 x13_1).f3)))))) = true := c8
         clear c8
         obtain rfl := Option.some.inj H
         have p1081 : 0 ≤ (x13_1 : Int) := of_decide_eq_true (by first | (with_reducible assumption) | assumption)
         have q1081 : x13_1 < (l0.length : Int) := of_decide_eq_true (by first | (with_reducible assumption) | assumption)
         obtain ⟨ad1081, e1081, hx1081_0, hx1081_1, hx1081_2, hx1081_3, hx1081_4, hx1081_5, hx1081_6, hx1081_7, hx1081_8, hx1081_9⟩ := at_T86 HR0.out x13_1 p1081 q1081
         cases e1081
         replace p1081 := eq_true p1081
         replace q1081 := eq_true q1081
         have p1082 : 0 ≤ (x13_1 : Int) := of_decide_eq_true (by first | (with_reducible assumption) | assumption)
         have q1082 : x13_1 < (l1.length : Int) := of_decide_eq_true (by first | (with_reducible assumption) | assumption)
         obtain ⟨ad1082, e1082, hx1082_0, hx1082_1, hx1082_2, hx1082_3, hx1082_4, hx1082_5, hx1082_6, hx1082_7, hx1082_8, hx1082_9⟩ := at_T86 HR1.out x13_1 p1082 q1082
         cases e1082
         replace p1082 := eq_true p1082
         replace q1082 := eq_true q1082
         go_wp2
         repeat (go_quiet (fail); try go_wp2)
         go_ret
         exact ⟨by first | rfl | (simp; done) | (simp [*]; done), by repeat (first | exact Drawn0.refl _ | apply Drawn0.step)⟩
        rw [if_neg c8] at H
        have c8b0 : ((!(((rd_T86 l0 x13_1).f0.f0) == ((rd_T86 l1 x13_1).f0.f0)) || (!(((rd_T86 l0 x13_1).f0.f1) == ((rd_T86 l1 x13_1).f0.f1)) || (!(((rd_T86 l0 x13_1).f0.f2) == ((rd_T86 l1 x13_1).f0.f2)) || (!(((rd_T86 l0 x13_1).f0.f3) == ((rd_T86 l1 x13_1).f0.f3)) || (!(((rd_T86 l0 x13_1).f0.f4) == ((rd_T86 l1 x13_1).f0.f4))))))) || ((!(((rd_T86 l0 x13_1).f1.f0) == ((rd_T86 l1 x13_1).f1.f0)) || (!(((rd_T86 l0 x13_1).f1.f1) == ((rd_T86 l1 x13_1).f1.f1)) || (!(((rd_T86 l0 x13_1).f1.f2) == ((rd_T86 l1 x13_1).f1.f2))))) || (!(((rd_T86 l0 x13_1).f2) == ((rd_T86 l1 x13_1).f2)) || (!(((rd_T86 l0 x13_1).f3) == ((rd_T86 l1 x13_1).f3)))))) = false := by simpa using c8
        clear c8
        have H' := Aside0.mk H
        clear H
        have p1081 : 0 ≤ (x13_1 : Int) := of_decide_eq_true (by first | (with_reducible assumption) | assumption)
        have q1081 : x13_1 < (l0.length : Int) := of_decide_eq_true (by first | (with_reducible assumption) | assumption)
        obtain ⟨ad1081, e1081, hx1081_0, hx1081_1, hx1081_2, hx1081_3, hx1081_4, hx1081_5, hx1081_6, hx1081_7, hx1081_8, hx1081_9⟩ := at_T86 HR0.out x13_1 p1081 q1081
        cases e1081
        replace p1081 := eq_true p1081
        replace q1081 := eq_true q1081
        have p1082 : 0 ≤ (x13_1 : Int) := of_decide_eq_true (by first | (with_reducible assumption) | assumption)
        have q1082 : x13_1 < (l1.length : Int) := of_decide_eq_true (by first | (with_reducible assumption) | assumption)
        obtain ⟨ad1082, e1082, hx1082_0, hx1082_1, hx1082_2, hx1082_3, hx1082_4, hx1082_5, hx1082_6, hx1082_7, hx1082_8, hx1082_9⟩ := at_T86 HR1.out x13_1 p1082 q1082
        cases e1082
        replace p1082 := eq_true p1082
        replace q1082 := eq_true q1082
        go_wp2
        repeat (go_quiet (fail); try go_wp2)
        go_roundg k1
        case measure => have := HK1.out; omega
        case rel => exact ⟨(wrap64 (x13_1 + 1)), (by first | rfl | (simp; done) | (simp [*]; done)), H', ⟨by have := HK1.out; omega⟩, by repeat (first | exact Drawn0.refl _ | apply Drawn0.step)⟩
       rw [if_neg c7] at H
       exact absurd H (by simp)
      rw [if_neg c6] at H
      exact absurd H (by simp)
     rw [if_neg c5] at H
     exact absurd H (by simp)
    rw [if_neg c4] at H
    have c4b0 : decide (x13_1 < (l0.length : Int)) = false := decide_eq_false c4
    clear c4
    obtain rfl := Option.some.inj H
    go_wp2
    repeat (go_quiet (fail); try go_wp2)
    go_ret
    exact ⟨by first | rfl | (simp; done) | (simp [*]; done), by repeat (first | exact Drawn0.refl _ | apply Drawn0.step)⟩
 rw [if_neg c3] at H
 have c3b0 : ((l0.length : Int) == (l1.length : Int)) = false := beq_eq_false_iff_ne.mpr c3
 have c3b1 : ((l0.length : Int) != (l1.length : Int)) = true := bne_iff_ne.mpr c3
 have c3b2 : (l0.length == l1.length) = false := by first | simpa using c3 | (simp at c3 ⊢; omega)
 obtain rfl := Option.some.inj H
 go_enter Try.func53, Try.ntmps53
 go_wp2
 repeat (go_quiet (fail); try go_wp2)
 go_ret
 exact ⟨by first | rfl | (simp; done) | (simp [*]; done), by repeat (first | exact Drawn0.refl _ | apply Drawn0.step)⟩
mutual
def laws_FnTwice.j0 : Nat → List Int → List Int → Bool → Option (Bool)
 | 0, _, _, _ => none
 | k + 1, x0, x1, x22 => if x22 = true then (some true) else ((spec_Drawn.f k x0).bind fun bt1083 => (laws_FnTwice.l0 k x1 bt1083.2.2.2.1 bt1083.2.2.2.2.1 bt1083.2.2.2.2.2 ([] : List (List Int)) bt1083.2.2.2.2.1 (bt1083.2.2.2.2.1.length : Int) 0 bt1083.1 bt1083.2.1 bt1083.2.2.1))
def laws_FnTwice.l0 : Nat → List Int → List (S84) → List (List Int) → Int → List (List Int) → List (List Int) → Int → Int → Int → Int → Int → Option (Bool)
 | 0, _, _, _, _, _, _, _, _, _, _, _ => none
 | k + 1, x1, x6, x7, x8, x9, x30, x31, x32, x1094000, x1094001, x1094002 => if x32 < x31 then (if 0 ≤ x32 then (if x32 < (x30.length : Int) then ((some (([] : List Int) : List Int)).bind fun y1102 => (if y1102.length + (rd_L5 x30 x32).length < 17592186044416 then (laws_FnTwice.l1 k x1 x6 x7 x8 x9 x32 (rd_L5 x30 x32) (y1102 ++ (rd_L5 x30 x32)) x30 x31 x32 ((rd_L5 x30 x32).length : Int) 0 x1094000 x1094001 x1094002) else (none))) else (none)) else (none)) else ((impl_Run.f x1094000 x1094001 x1094002 x6 x7 x8).bind fun t1094 => ((impl_Run.f x1094000 x1094001 x1094002 x6 x9 x8).bind fun t1097 => ((laws_wMoments.f k t1094 t1097).bind fun t1100 => (if t1100 = true then (some ((t1094.length : Int) == x8)) else (some false)))))
def laws_FnTwice.l1 : Nat → List Int → List (S84) → List (List Int) → Int → List (List Int) → Int → List Int → List Int → List (List Int) → Int → Int → Int → Int → Int → Int → Int → Option (Bool)
 | 0, _, _, _, _, _, _, _, _, _, _, _, _, _, _, _, _ => none
 | k + 1, x1, x6, x7, x8, x9, x10, x11, x12, x30, x31, x32, x41, x42, x1094000, x1094001, x1094002 => if x42 < x41 then ((laws_wByte.f x1 (wrap64 (x10 + x42))).bind fun t1108 => (if (Int.tmod t1108 2) = 0 then (if (x12.length : Int) < 10 then (if 0 ≤ x42 then (if x42 < (x11.length : Int) then (if x12.length < 17592186044416 then (laws_FnTwice.l1 k x1 x6 x7 x8 x9 x10 x11 (x12 ++ [rd x11 x42]) x30 x31 x32 x41 (wrap64 (x42 + 1)) x1094000 x1094001 x1094002) else (none)) else (none)) else (none)) else (laws_FnTwice.l1 k x1 x6 x7 x8 x9 x10 x11 x12 x30 x31 x32 x41 (wrap64 (x42 + 1)) x1094000 x1094001 x1094002)) else (laws_FnTwice.l1 k x1 x6 x7 x8 x9 x10 x11 x12 x30 x31 x32 x41 (wrap64 (x42 + 1)) x1094000 x1094001 x1094002))) else (if x9.length < 5864062014805 then (laws_FnTwice.l0 k x1 x6 x7 x8 (x9 ++ [x12]) x30 x31 (wrap64 (x32 + 1)) x1094000 x1094001 x1094002) else (none))
end
def laws_FnTwice.f (k : Nat) (l0 : List Int) (l1 : List Int) : Option (Bool) := if (l0.length : Int) > 1048576 then (laws_FnTwice.j0 k l0 l1 true) else (laws_FnTwice.j0 k l0 l1 (decide ((l1.length : Int) > 1048576)))
set_option maxHeartbeats 8000000 in
set_option maxRecDepth 100000 in
theorem laws_FnTwice.calls (k : Nat) (A0 : Option Addr) (c0 : Nat) (l0 : List Int) (A1 : Option Addr) (c1 : Nat) (l1 : List Int) (w : World) (hr0 : Kd.C (Kd.int .u8) w A0 l0.length l0) (hc0 : l0.length ≤ c0) (hr1 : Kd.C (Kd.int .u8) w A1 l1.length l1) (hc1 : l1.length ≤ c1) (h : laws_FnTwice.f k l0 l1 = some true) :
  Calls Try.prog 10 #[.slice A0 l0.length c0, .slice A1 l1.length c1] w fun e w' => e = .returned (.bool true) ∧ Below w.heap.size w w' := by
 have hu34 := Try.underlying34
 have HR0 := Aside0.mk hr0
 have HC0 := Aside0.mk hc0
 clear hr0 hc0
 have HR1 := Aside0.mk hr1
 have HC1 := Aside0.mk hc1
 clear hr1 hc1
 have HB := Aside0.mk (Below.refl w.heap.size w)
 have H : (if (l0.length : Int) > 1048576 then (laws_FnTwice.j0 k l0 l1 true) else (laws_FnTwice.j0 k l0 l1 (decide ((l1.length : Int) > 1048576)))) = some true := h
 clear h
 have HC3 := Aside0.mk H
 clear H
 go_enter Try.func10, Try.ntmps10
 go_upto_region 1 with (fail)
 go_cut [22] (fun v22 wc => ∃ (kq : Nat) (x22_2 : Bool), v22 = .bool x22_2 ∧ Aside0 (laws_FnTwice.j0 kq l0 l1 x22_2 = some true) ∧ Aside0 (kq ≤ k) ∧ Aside0 (Below w.heap.size w wc))
 case first =>
  have H := HC3.out
  clear HC3
  by_cases c4 : (l0.length : Int) > 1048576
  ·rw [if_pos c4] at H
   have c4b0 : decide (1048576 < (l0.length : Int)) = true := decide_eq_true c4
   have c4b1 : decide (1048576 < l0.length) = true := decide_eq_true (by omega)
   clear c4
   (first | rw [c4b0] | (simp only [i64_w, i32_w]; rw [c4b0]) | skip)
   have H' := Aside0.mk H
   clear H
   go_wp2
   go_meet
   case rel => exact ⟨_, (true), (by first | rfl | (simp; done) | (simp [*]; done)), H', ⟨by first | omega | exact Nat.le_refl _⟩, ⟨(qs HB)⟩⟩
  rw [if_neg c4] at H
  have c4b0 : decide (1048576 < (l0.length : Int)) = false := decide_eq_false c4
  have c4b1 : decide (1048576 < l0.length) = false := decide_eq_false (by omega)
  clear c4
  (first | rw [c4b0] | (simp only [i64_w, i32_w]; rw [c4b0]) | skip)
  have H' := Aside0.mk H
  clear H
  go_wp2
  go_meet
  case rel => exact ⟨_, (decide ((l1.length : Int) > 1048576)), (by first | rfl | (simp; done) | (simp [*]; done)), H', ⟨by first | omega | exact Nat.le_refl _⟩, ⟨(qs HB)⟩⟩
 case rest =>
  clear HC3
  try clear c1; try clear p2; try clear c4; try clear c4b0; try clear c4b1
  obtain ⟨kq, x22_2, rfl, HA, HJ2, HB⟩ := hcut
  cases kq with
  | zero => exact absurd HA.out (by simp [laws_FnTwice.j0])
  | succ kj2 =>
   have H := HA.out
   clear HA
   simp only [laws_FnTwice.j0] at H
   by_cases c5 : x22_2 = true
   ·subst c5
    have H1 : some true = some true := rfl
    clear H; have H := H1; clear H1
    go_wp2
    go_ret
    exact ⟨by first | rfl | (simp [errW_none, errW_some] <;> rfl) | (simp [*, errW_none, errW_some] <;> rfl), (qs HB)⟩
   replace c5 := Bool.eq_false_iff.mpr c5
   subst c5
   have H1 : ((spec_Drawn.f kj2 l0).bind fun bt1083 => (laws_FnTwice.l0 kj2 l1 bt1083.2.2.2.1 bt1083.2.2.2.2.1 bt1083.2.2.2.2.2 ([] : List (List Int)) bt1083.2.2.2.2.1 (bt1083.2.2.2.2.1.length : Int) 0 bt1083.1 bt1083.2.1 bt1083.2.2.1)) = some true := by rw [if_neg (show ¬ (false = true) by decide)] at H; exact H
   clear H; have H := H1; clear H1
   replace H := Option.bind_eq_some_iff.mp H
   obtain ⟨⟨t1083, t1084, t1085, t1086, t1089, t1092⟩, A60, H⟩ := H
   replace H : (laws_FnTwice.l0 kj2 l1 t1086 t1089 t1092 ([] : List (List Int)) t1089 (t1089.length : Int) 0 t1083 t1084 t1085) = some true := H
   have A6 := Aside0.mk A60
   clear A60
   have H' := Aside0.mk H
   clear H
   go_wp2_with (first | ((with_reducible refine gate_callee (f := 46) rfl ?_); refine goesLA (some 25) rfl Try.func46 #[.slice A0 l0.length c0] ?_; (with_reducible refine (spec_Drawn.calls kj2 _ _ l0 t1083 t1084 t1085 t1086 t1089 t1092 _ ?side1 ?side2 A6.out).mono ?_); (case side1 => exact qc (Kd.C_below HR0.out HB.out)); (case side2 => exact HC0.out); rintro e w7 ⟨v1087, v1090, rfl, ho0, ho1, hb⟩; refine ⟨_, rfl, ?_⟩; have HO1088 := Aside0.mk (Kd.R_lower ho0 (below_size (qs HB))); have HO1091 := Aside0.mk (Kd.S_lower ho1 (below_size (qs HB))); replace HB := bst HB hb; clear hb; (try clear ho0); (try clear ho1)) | ((with_reducible refine gate_dst (N := 5) rfl ?_); (try (refine gate_guard (by rfl) ?_; dsimp only)); refine boxA #[.int .i64 0, .int .i64 0, .int .i64 0] 34 ?_; intro gb1093 hg w8 hbox hb; replace HO1088 := rbl HO1088 hb; replace HO1091 := Aside0.mk (Kd.S_below (by (with_reducible repeat (first | apply Kd.S_alloc | apply Kd.S_drewN | apply Kd.S_drew)); exact HO1091.out) hb); have BK1093 := Aside0.mk (hbox); have GW1093 := nge HB hg; have GE1093 := nge HB hg; replace HB := bst HB hb; clear hb hbox hg; have hcz9_0 := b0 BK1093; have hcz9_1 := b1 BK1093; have hcz9_2 := b2 BK1093; have hfz9_0 := blk_frozen BK1093.out 0; have hfz9_1 := blk_frozen BK1093.out 1; have hfz9_2 := blk_frozen BK1093.out 2; obtain ⟨Ao10, co10, eo10⟩ := Kd.S_slice HO1091.out; subst eo10))
   go_loopg [9, 32] kj2 (fun kq v9 v32 w' => ∃ (x9_2 : List (List Int)) (x32_2 : Int), v32 = .int .i64 x32_2 ∧ Aside0 (laws_FnTwice.l0 kq l1 t1086 t1089 t1092 x9_2 t1089 (t1089.length : Int) x32_2 t1083 t1084 t1085 = some true) ∧ Aside0 (kq ≤ kj2) ∧ Aside0 (Kd.R k84 84 w' w.heap.size (fun _ => True) v1087 t1086) ∧ Aside0 (Kd.S (Kd.slice 3 (Kd.int .i64)) 82 w' w.heap.size (fun k_ => some k_ ≠ (v9 : Value).ownBlock) (.slice Ao10 t1089.length co10) t1089) ∧ Aside0 (Kd.S (Kd.slice 3 (Kd.int .i64)) 82 w' w.heap.size (fun k_ => some k_ ≠ ((.slice Ao10 t1089.length co10) : Value).ownBlock ∧ some k_ ≠ ((.slice Ao10 t1089.length co10) : Value).ownBlock) v9 x9_2) ∧ Aside0 (Kd.S (Kd.slice 3 (Kd.int .i64)) 82 w' w.heap.size (fun k_ => some k_ ≠ (v9 : Value).ownBlock) (.slice Ao10 t1089.length co10) t1089) ∧ Aside0 (w'.heap[gb1093]? = some (.cells #[.int .i64 t1083, .int .i64 t1084, .int .i64 t1085] 34 (0, 0))) ∧ Aside0 (Below w.heap.size w w'))
   case atStart => exact ⟨(([] : List (List Int))), (0), (by first | rfl | (simp; done) | (simp [*]; done)), H', ⟨Nat.le_refl _⟩, ⟨by (with_reducible repeat (first | apply Kd.R_alloc | apply Kd.R_drewN | apply Kd.R_drew)); exact Kd.R_mono (Kd.R_far (p := ⟨gb1093, 2, none⟩) (Kd.R_far (p := ⟨gb1093, 1, none⟩) (Kd.R_far (p := ⟨gb1093, 0, none⟩) (Kd.R_types HO1088.out BK1093.out (by decide)) (fun _ hk => hk.2) (.int .i64 t1083)) (fun _ hk => hk.2) (.int .i64 t1084)) (fun _ hk => hk.2) (.int .i64 t1085)) (fun _ hk => trivial)⟩, ⟨by (with_reducible repeat (first | apply Kd.S_alloc | apply Kd.S_drewN | apply Kd.S_drew)); exact Kd.S_mono (Kd.S_far (p := ⟨gb1093, 2, none⟩) (Kd.S_far (p := ⟨gb1093, 1, none⟩) (Kd.S_far (p := ⟨gb1093, 0, none⟩) (Kd.S_types HO1091.out BK1093.out (by decide)) (fun _ hk => hk.2) (.int .i64 t1083)) (fun _ hk => hk.2) (.int .i64 t1084)) (fun _ hk => hk.2) (.int .i64 t1085)) (fun _ hk => (by simp [Value.ownBlock]))⟩, ⟨by first | exact Kd.S_nil _ _ _ _ _ | exact Kd.N_nil _ _ _ _ _ | exact Kd.V_nil _ _ _ _ _ | exact Kd.Q_nil _ _ _ _ _ | exact Kd.R_nil _ _ _ _ _⟩, ⟨by (with_reducible repeat (first | apply Kd.S_alloc | apply Kd.S_drewN | apply Kd.S_drew)); exact Kd.S_mono (Kd.S_far (p := ⟨gb1093, 2, none⟩) (Kd.S_far (p := ⟨gb1093, 1, none⟩) (Kd.S_far (p := ⟨gb1093, 0, none⟩) (Kd.S_types HO1091.out BK1093.out (by decide)) (fun _ hk => hk.2) (.int .i64 t1083)) (fun _ hk => hk.2) (.int .i64 t1084)) (fun _ hk => hk.2) (.int .i64 t1085)) (fun _ hk => (by simp [Value.ownBlock]))⟩, ⟨by (with_reducible repeat (first | refine blk_drewN ?_ _ | refine blk_drew ?_ | refine blk_alloc ?_ _)); refine blk_put (cs := #[.int .i64 t1083, .int .i64 t1084, .int .i64 0]) ?_ 2 _ rfl; (with_reducible repeat (first | refine blk_drewN ?_ _ | refine blk_drew ?_ | refine blk_alloc ?_ _)); refine blk_put (cs := #[.int .i64 t1083, .int .i64 0, .int .i64 0]) ?_ 1 _ rfl; (with_reducible repeat (first | refine blk_drewN ?_ _ | refine blk_drew ?_ | refine blk_alloc ?_ _)); refine blk_put (cs := #[.int .i64 0, .int .i64 0, .int .i64 0]) ?_ 0 _ rfl; (with_reducible repeat (first | refine blk_drewN ?_ _ | refine blk_drew ?_ | refine blk_alloc ?_ _)); exact BK1093.out⟩, ⟨(qs HB)⟩⟩
   case round =>
    clear H'
    try clear c1; try clear p2; try clear c4; try clear c4b0; try clear c4b1; try clear c5; try clear c10; try clear hcz9_0; try clear hcz9_1; try clear hcz9_2; try clear hfz9_0; try clear hfz9_1; try clear hfz9_2; try clear p2
    obtain ⟨x9_2, x32_2, rfl, HA, HK2, HO_6, HO_7, HO_9, HO_30, BK1093, HB⟩ := hrel
    cases gk with
    | zero => exact absurd HA.out (by simp [laws_FnTwice.l0])
    | succ k2 =>
     have H := HA.out
     clear HA
     simp only [laws_FnTwice.l0] at H
     by_cases c11 : x32_2 < (t1089.length : Int)
     ·rw [if_pos c11] at H
      have c11b0 : decide (x32_2 < (t1089.length : Int)) = true := decide_eq_true c11
      clear c11
      by_cases c12 : 0 ≤ x32_2
      ·rw [if_pos c12] at H
       have c12b0 : decide (0 ≤ x32_2) = true := decide_eq_true c12
       clear c12
       by_cases c13 : x32_2 < (t1089.length : Int)
       ·rw [if_pos c13] at H
        have c13b0 : decide (x32_2 < (t1089.length : Int)) = true := decide_eq_true c13
        clear c13
        obtain ⟨y1102, hy1102⟩ : ∃ y_ : List Int, y_ = (([] : List Int)) := ⟨_, rfl⟩
        replace H : (if y1102.length + (rd_L5 t1089 x32_2).length < 17592186044416 then (laws_FnTwice.l1 k2 l1 t1086 t1089 t1092 x9_2 x32_2 (rd_L5 t1089 x32_2) (y1102 ++ (rd_L5 t1089 x32_2)) t1089 (t1089.length : Int) x32_2 ((rd_L5 t1089 x32_2).length : Int) 0 t1083 t1084 t1085) else (none)) = some true := by first | (rw [hy1102]; with_reducible exact H) | (have H2_ := (Option.bind_some _ _).symm.trans H; rw [hy1102]; with_reducible exact H2_) | (have H2_ := (Option.bind_some _ _).symm.trans H; with_reducible exact H2_) | with_reducible exact H | (rw [hy1102]; exact H) | exact H
        have Ny1102 := Aside0.mk hy1102
        clear hy1102
        by_cases c14 : y1102.length + (rd_L5 t1089 x32_2).length < 17592186044416
        ·rw [if_pos c14] at H
         have LMc14 := Aside0.mk c14
         clear c14
         obtain ⟨y1105, hy1105⟩ : ∃ y_ : List Int, y_ = (y1102 ++ (rd_L5 t1089 x32_2)) := ⟨_, rfl⟩
         replace H : (laws_FnTwice.l1 k2 l1 t1086 t1089 t1092 x9_2 x32_2 (rd_L5 t1089 x32_2) y1105 t1089 (t1089.length : Int) x32_2 ((rd_L5 t1089 x32_2).length : Int) 0 t1083 t1084 t1085) = some true := by first | (rw [hy1105]; with_reducible exact H) | (have H2_ := (Option.bind_some _ _).symm.trans H; rw [hy1105]; with_reducible exact H2_) | (have H2_ := (Option.bind_some _ _).symm.trans H; with_reducible exact H2_) | with_reducible exact H | (rw [hy1105]; exact H) | exact H
         have Ny1105 := Aside0.mk hy1105
         clear hy1105
         have H' := Aside0.mk H
         clear H
         have p1101 : 0 ≤ (x32_2 : Int) := of_decide_eq_true (by first | (with_reducible assumption) | assumption)
         have q1101 : x32_2 < (t1089.length : Int) := of_decide_eq_true (by first | (with_reducible assumption) | assumption)
         obtain ⟨ad1101, A1101_0, c1101_0, e1101, hx1101_0, hl1101_0, hi1101_0⟩ := at_L5 (Kd.S_reads' HO_30.out).2.2 x32_2 p1101 q1101
         cases e1101
         obtain ⟨ce1101, hce1101, hMe1101, hcc1101⟩ := Kd.S_get HO_30.out [] x32_2 p1101 (by first | exact q1101 | exact of_decide_eq_true (by first | (with_reducible assumption) | assumption) | (have e_ := (Kd.S_reads' HO_30.out).1; omega))
         obtain ⟨ve1101_0, rfl, ge1101_0⟩ := hMe1101
         have hv1101_0 := hcc1101 0 _ rfl
         rw [Nat.add_zero, show ((Kd.slice 3 (Kd.int .i64))).sz = 1 from rfl, Nat.mul_one] at hv1101_0
         replace hv1101_0 := Option.some.inj (hv1101_0.symm.trans hx1101_0)
         rw [hv1101_0] at ge1101_0
         have HL1101_0 := Aside0.mk (show Kd.R (Kd.int .i64) 3 _ _ _ _ (rd_L5 t1089 x32_2) from ge1101_0)
         clear hv1101_0 ge1101_0 hcc1101 hce1101
         have HR1101_0 := Aside0.mk hi1101_0
         have HC1101_0 := Aside0.mk hl1101_0
         clear hi1101_0 hl1101_0
         replace p1101 := eq_true p1101
         replace q1101 := eq_true q1101
         go_wp2_with (first | ((with_reducible refine gate_dst (N := 37) rfl ?_); (try (refine gate_guard (by rfl) ?_; dsimp only)); refine Kd.R_lit (Kd.int .i64) _ 3 ?hg (N := 37) ?hd (xs := ([] : List Int)) (inner := []) (ok := fun _ => True) (okp := fun _ => True) ?hr ?hp (fun _ hk => hk) trivial (Below.refl _ _) (Nat.le_refl _) (by simp) ?_; (case hd => rfl); (case hg => rfl); (case hr => first | (go_simp; done) | (go_simp; rfl)); (case hp => exact (Reps.none _ _)); intro v1103 w15 ho16 hb hg_ hnew_; clear hg_ hnew_; (first | rw [← Ny1102.out] at ho16 | (simp only [Int.reduceToNat] at ho16; rw [← Ny1102.out] at ho16)); replace HO_6 := rbl HO_6 hb; replace HO_7 := Aside0.mk (Kd.S_elder' (by (with_reducible repeat (first | apply Kd.S_alloc | apply Kd.S_drewN | apply Kd.S_drew)); exact HO_7.out) (Kd.R_base ho16) hb); replace HO_9 := Aside0.mk (Kd.S_elder' (by (with_reducible repeat (first | apply Kd.S_alloc | apply Kd.S_drewN | apply Kd.S_drew)); exact HO_9.out) (Kd.R_base ho16) hb); replace HO_30 := Aside0.mk (Kd.S_elder' (by (with_reducible repeat (first | apply Kd.S_alloc | apply Kd.S_drewN | apply Kd.S_drew)); exact HO_30.out) (Kd.R_base ho16) hb); have HO1104 := Aside0.mk (Kd.R_lower (Kd.R_new' ho16 (Kd.R_lt (qr HL1101_0))) (below_size (qs HB))); replace HL1101_0 := Aside0.mk (Kd.R_elder' (qr HL1101_0) (Kd.R_base ho16) hb); replace BK1093 := bkb BK1093 hb; replace HR1101_0 := Aside0.mk (Kd.C_below (by repeat (first | (with_reducible exact HR1101_0.out) | (with_reducible refine Kd.C_alloc ?_ _) | (with_reducible refine Kd.C_drewN ?_ _) | (with_reducible refine Kd.C_drew ?_) | exact HR1101_0.out)) hb); replace HB := bst HB hb; clear hb ho16) | ((with_reducible refine gate_builtin (b := .append) (xs := #[.tmp 37, .tmp 38]) rfl ?_); (try (refine gate_guard (by rfl) ?_; dsimp only)); at_builtin; refine Kd.R_append_rows (Kd.int .i64) (w0 := w) w.heap.size rfl (.tmp 37) (.tmp 38) 82 3 (.int .i64 0) 8 rfl Try.underlying82 info3 rfl (by decide) (by omega) v1103 y1102 (rd_L5 t1089 x32_2) _ _ _ (fun k_ => some k_ ≠ (.slice A1101_0 (rd_L5 t1089 x32_2).length c1101_0 : Value).ownBlock) (fun _ => False) rfl rfl ?aO ?aR (fun _ _ h => h) (fun _ h => h.elim) ?aF ?aB ?aS ?aL ?_; (case aR => repeat (first | exact (by repeat (first | (with_reducible exact HR1101_0.out) | (with_reducible refine Kd.C_alloc ?_ _) | (with_reducible refine Kd.C_drewN ?_ _) | (with_reducible refine Kd.C_drew ?_) | exact HR1101_0.out)) | (with_reducible refine Kd.C_alloc ?_ _) | (with_reducible refine Kd.C_drewN ?_ _) | (with_reducible refine Kd.C_drew ?_))); (case aB => exact (qs HB)); (case aF => exact (fun k_ hk => Kd.fresh' (Kd.R_lt (qr HL1101_0)) k_ hk)); (case aO => exact (qm HO1104 (fun _ hk => hk.2))); (case aS => exact (below_size (qs HB))); (case aL => have := LMc14.out; omega); intro v1106 w17 ho hb hg hat; rw [← Ny1105.out] at ho; replace HO_6 := Aside0.mk (Kd.R_over' (qr HO_6) (Kd.R_typed (qr HO1104)) (by decide) hg); replace HO_7 := Aside0.mk (Kd.S_after (ok := (fun k_ => some k_ ≠ (u9 : Value).ownBlock)) (by (with_reducible repeat (first | apply Kd.S_alloc | apply Kd.S_drewN | apply Kd.S_drew)); exact HO_7.out) hg hat); replace HO_9 := Aside0.mk (Kd.S_after (ok := (fun k_ => some k_ ≠ (.slice (some ad1101) t1089.length co10 : Value).ownBlock ∧ some k_ ≠ (.slice (some ad1101) t1089.length co10 : Value).ownBlock)) (by (with_reducible repeat (first | apply Kd.S_alloc | apply Kd.S_drewN | apply Kd.S_drew)); exact HO_9.out) hg hat); replace HO_30 := Aside0.mk (Kd.S_after (ok := (fun k_ => some k_ ≠ (u9 : Value).ownBlock)) (by (with_reducible repeat (first | apply Kd.S_alloc | apply Kd.S_drewN | apply Kd.S_drew)); exact HO_30.out) hg hat); replace BK1093 := Aside0.mk (blk_grown (g := gb1093) (o := .cells #[.int .i64 t1083, .int .i64 t1084, .int .i64 t1085] 34 (0, 0)) (qb BK1093) hg (Kd.R_ne HO1104.out BK1093.out (by decide))); replace HL1101_0 := Aside0.mk (Kd.R_after (ok := (fun k_ => some k_ ≠ (u9 : Value).ownBlock ∧ some k_ ≠ (.slice (some ad1101) t1089.length co10 : Value).ownBlock)) (qr HL1101_0) hg hat); replace HB := Aside0.mk (hb); have HO1107 := Aside0.mk (ho); clear HO1104; clear ho hb hg hat))
         go_loopg [12, 42] k2 (fun kq v12 v42 w' => ∃ (x12_3 : List Int) (x42_3 : Int), v42 = .int .i64 x42_3 ∧ Aside0 (laws_FnTwice.l1 kq l1 t1086 t1089 t1092 x9_2 x32_2 (rd_L5 t1089 x32_2) x12_3 t1089 (t1089.length : Int) x32_2 ((rd_L5 t1089 x32_2).length : Int) x42_3 t1083 t1084 t1085 = some true) ∧ Aside0 (kq ≤ k2) ∧ Aside0 (Kd.R k84 84 w' w.heap.size (fun _ => True) v1087 t1086) ∧ Aside0 (Kd.S (Kd.slice 3 (Kd.int .i64)) 82 w' w.heap.size (fun k_ => some k_ ≠ (u9 : Value).ownBlock ∧ some k_ ≠ (v12 : Value).ownBlock) (.slice (some ad1101) t1089.length co10) t1089) ∧ Aside0 (Kd.S (Kd.slice 3 (Kd.int .i64)) 82 w' w.heap.size (fun k_ => some k_ ≠ ((.slice (some ad1101) t1089.length co10) : Value).ownBlock ∧ some k_ ≠ (v12 : Value).ownBlock ∧ some k_ ≠ ((.slice (some ad1101) t1089.length co10) : Value).ownBlock) u9 x9_2) ∧ Aside0 (Kd.R (Kd.int .i64) 3 w' w.heap.size (fun _ => True) v12 x12_3) ∧ Aside0 (Kd.S (Kd.slice 3 (Kd.int .i64)) 82 w' w.heap.size (fun k_ => some k_ ≠ (u9 : Value).ownBlock ∧ some k_ ≠ (v12 : Value).ownBlock) (.slice (some ad1101) t1089.length co10) t1089) ∧ Aside0 (w'.heap[gb1093]? = some (.cells #[.int .i64 t1083, .int .i64 t1084, .int .i64 t1085] 34 (0, 0))) ∧ Aside0 (Below w.heap.size w w') ∧ Aside0 (Kd.F (Kd.int .i64) w' (fun k_ => some k_ ≠ (v12 : Value).ownBlock) A1101_0 (rd_L5 t1089 x32_2).length (rd_L5 t1089 x32_2)))
         case atStart => exact ⟨(y1105), (0), (by first | rfl | (simp; done) | (simp [*]; done)), H', ⟨Nat.le_refl _⟩, ⟨by (with_reducible repeat (first | apply Kd.R_alloc | apply Kd.R_drewN | apply Kd.R_drew)); exact HO_6.out⟩, ⟨by (with_reducible repeat (first | apply Kd.S_alloc | apply Kd.S_drewN | apply Kd.S_drew)); exact HO_7.out⟩, ⟨by (with_reducible repeat (first | apply Kd.S_alloc | apply Kd.S_drewN | apply Kd.S_drew)); exact Kd.S_mono HO_9.out (fun _ hk => ⟨hk.1.1, ⟨hk.2, hk.1.2⟩⟩)⟩, ⟨by (with_reducible repeat (first | apply Kd.R_alloc | apply Kd.R_drewN | apply Kd.R_drew)); exact Kd.R_mono HO1107.out (fun _ hk => trivial)⟩, ⟨by (with_reducible repeat (first | apply Kd.S_alloc | apply Kd.S_drewN | apply Kd.S_drew)); exact HO_30.out⟩, ⟨qb BK1093⟩, ⟨(qs HB)⟩, ⟨Kd.F_mono (Kd.R_F HL1101_0.out) (fun _ hk => hk.2)⟩⟩
         case round =>
          clear H'
          try clear c1; try clear p1; try clear q1; try clear hx1; try clear p2; try clear c4; try clear c4b0; try clear c4b1; try clear c5; try clear c10; try clear c11; try clear c11b0; try clear p11; try clear q11; try clear hx11; try clear c12; try clear c12b0; try clear c13; try clear c13b0; try clear c14; try clear hcz9_0; try clear hcz9_1; try clear hcz9_2; try clear hfz9_0; try clear hfz9_1; try clear hfz9_2; try clear hx1101_0; try clear p1101; try clear p2; try clear q1101
          obtain ⟨x12_3, x42_3, rfl, HA, HK3, HO_6, HO_7, HO_9, HO_12, HO_30, BK1093, HB, HF⟩ := hrel
          have HR1101_0 := Aside0.mk (Kd.F_now HF.out)
          cases gk with
          | zero => exact absurd HA.out (by simp [laws_FnTwice.l1])
          | succ k3 =>
           have H := HA.out
           clear HA
           simp only [laws_FnTwice.l1] at H
           by_cases c18 : x42_3 < ((rd_L5 t1089 x32_2).length : Int)
           ·rw [if_pos c18] at H
            have c18b0 : decide (x42_3 < ((rd_L5 t1089 x32_2).length : Int)) = true := decide_eq_true c18
            clear c18
            replace H := Option.bind_eq_some_iff.mp H
            obtain ⟨t1108, A190, H⟩ := H
            replace H : (if (Int.tmod t1108 2) = 0 then (if (x12_3.length : Int) < 10 then (if 0 ≤ x42_3 then (if x42_3 < ((rd_L5 t1089 x32_2).length : Int) then (if x12_3.length < 17592186044416 then (laws_FnTwice.l1 k3 l1 t1086 t1089 t1092 x9_2 x32_2 (rd_L5 t1089 x32_2) (x12_3 ++ [rd (rd_L5 t1089 x32_2) x42_3]) t1089 (t1089.length : Int) x32_2 ((rd_L5 t1089 x32_2).length : Int) (wrap64 (x42_3 + 1)) t1083 t1084 t1085) else (none)) else (none)) else (none)) else (laws_FnTwice.l1 k3 l1 t1086 t1089 t1092 x9_2 x32_2 (rd_L5 t1089 x32_2) x12_3 t1089 (t1089.length : Int) x32_2 ((rd_L5 t1089 x32_2).length : Int) (wrap64 (x42_3 + 1)) t1083 t1084 t1085)) else (laws_FnTwice.l1 k3 l1 t1086 t1089 t1092 x9_2 x32_2 (rd_L5 t1089 x32_2) x12_3 t1089 (t1089.length : Int) x32_2 ((rd_L5 t1089 x32_2).length : Int) (wrap64 (x42_3 + 1)) t1083 t1084 t1085)) = some true := H
            have A19 := Aside0.mk A190
            clear A190
            by_cases c20 : (Int.tmod t1108 2) = 0
            ·rw [if_pos c20] at H
             have c20b0 : ((Int.tmod t1108 2) == 0) = true := beq_iff_eq.mpr c20
             have c20b1 : ((Int.tmod t1108 2) != 0) = false := bne_eq_false_iff_eq.mpr c20
             clear c20
             by_cases c21 : (x12_3.length : Int) < 10
             ·rw [if_pos c21] at H
              have c21b0 : decide ((x12_3.length : Int) < 10) = true := decide_eq_true c21
              have c21b1 : decide (x12_3.length < 10) = true := decide_eq_true (by omega)
              clear c21
              by_cases c22 : 0 ≤ x42_3
              ·rw [if_pos c22] at H
               have c22b0 : decide (0 ≤ x42_3) = true := decide_eq_true c22
               clear c22
               by_cases c23 : x42_3 < ((rd_L5 t1089 x32_2).length : Int)
               ·rw [if_pos c23] at H
                have c23b0 : decide (x42_3 < ((rd_L5 t1089 x32_2).length : Int)) = true := decide_eq_true c23
                clear c23
                by_cases c24 : x12_3.length < 17592186044416
                ·rw [if_pos c24] at H
                 have LMc24 := Aside0.mk c24
                 clear c24
                 obtain ⟨y1110, hy1110⟩ : ∃ y_ : List Int, y_ = (x12_3 ++ [rd (rd_L5 t1089 x32_2) x42_3]) := ⟨_, rfl⟩
                 replace H : (laws_FnTwice.l1 k3 l1 t1086 t1089 t1092 x9_2 x32_2 (rd_L5 t1089 x32_2) y1110 t1089 (t1089.length : Int) x32_2 ((rd_L5 t1089 x32_2).length : Int) (wrap64 (x42_3 + 1)) t1083 t1084 t1085) = some true := by first | (rw [hy1110]; with_reducible exact H) | (have H2_ := (Option.bind_some _ _).symm.trans H; rw [hy1110]; with_reducible exact H2_) | (have H2_ := (Option.bind_some _ _).symm.trans H; with_reducible exact H2_) | with_reducible exact H | (rw [hy1110]; exact H) | exact H
                 have Ny1110 := Aside0.mk hy1110
                 clear hy1110
                 have H' := Aside0.mk H
                 clear H
                 go_wp2_with (first | ((with_reducible refine gate_callee (f := 47) rfl ?_); refine goesLA (some 49) rfl Try.func47 #[.slice A1 l1.length c1, .int .i64 (wrap64 (x32_2 + x42_3))] ?_; (with_reducible refine (laws_wByte.calls _ _ l1 (wrap64 (x32_2 + x42_3)) t1108 _ ?side1 ?side2 A19.out).mono ?_); (case side1 => exact qc (Kd.C_below HR1.out HB.out)); (case side2 => exact HC1.out); rintro e w' ⟨rfl, ⟨nd, rfl⟩⟩; refine ⟨_, rfl, ?_⟩; obtain ⟨Ao25, co25, eo25⟩ := Kd.R_slice HO_12.out; subst eo25; have p1109 : 0 ≤ (x42_3 : Int) := of_decide_eq_true (by first | (with_reducible assumption) | assumption); have q1109 : x42_3 < ((rd_L5 t1089 x32_2).length : Int) := of_decide_eq_true (by first | (with_reducible assumption) | assumption); obtain ⟨ad1109, e1109, hx1109_0⟩ := Kd.at_int HR1101_0.out x42_3 p1109 q1109; cases e1109; replace p1109 := eq_true p1109; replace q1109 := eq_true q1109) | ((with_reducible refine gate_builtin (b := .append) (xs := #[.tmp 57, .tmp 62]) rfl ?_); (try (refine gate_guard (by rfl) ?_; dsimp only)); at_builtin; refine Kd.R_append (Kd.int .i64) (w0 := w) w.heap.size rfl (.tmp 57) (.tmp 62) 82 3 (.int .i64 0) 8 rfl Try.underlying82 info3 rfl (by decide) (by omega) (.slice Ao25 x12_3.length co25) x12_3 (rd (rd_L5 t1089 x32_2) x42_3) [.int .i64 (rd (rd_L5 t1089 x32_2) x42_3)] (fun _ => True) (fun _ => False) rfl rfl ?aP (fun _ hk => hk.elim) ?aF ?aO ?aB ?aS ?aL ?_; (case aP => exact rfl); (case aB => exact (qs HB)); (case aF => exact (fun _ _ => trivial)); (case aO => exact (qr HO_12)); (case aS => exact (below_size (qs HB))); (case aL => have := LMc24.out; omega); intro v1111 w26 ho hb hg hat; replace HF := Aside0.mk (Kd.F_mono (Kd.F_after (ok := fun _ => True) (Kd.F_mono ((by repeat (first | exact HF.out | (with_reducible refine Kd.F_alloc ?_ _) | (with_reducible refine Kd.F_drewN ?_ _) | (with_reducible refine Kd.F_drew ?_))) : Kd.F (Kd.int .i64) _ _ _ _ _) (fun _ hk => ⟨trivial, hk⟩)) hg hat) (fun _ hk => hk.2)); rw [← Ny1110.out] at ho; replace HO_6 := Aside0.mk (Kd.R_over' (qr HO_6) (Kd.R_typed (qr HO_12)) (by decide) hg); replace HO_7 := Aside0.mk (Kd.S_after (ok := (fun k_ => some k_ ≠ (u9 : Value).ownBlock)) (by (with_reducible repeat (first | apply Kd.S_alloc | apply Kd.S_drewN | apply Kd.S_drew)); exact HO_7.out) hg hat); replace HO_9 := Aside0.mk (Kd.S_after (ok := (fun k_ => some k_ ≠ (.slice (some ad1101) t1089.length co10 : Value).ownBlock ∧ some k_ ≠ (.slice (some ad1101) t1089.length co10 : Value).ownBlock)) (by (with_reducible repeat (first | apply Kd.S_alloc | apply Kd.S_drewN | apply Kd.S_drew)); exact Kd.S_mono HO_9.out (fun _ hk => ⟨⟨hk.1, hk.2.2⟩, hk.2.1⟩)) hg hat); replace HO_30 := Aside0.mk (Kd.S_after (ok := (fun k_ => some k_ ≠ (u9 : Value).ownBlock)) (by (with_reducible repeat (first | apply Kd.S_alloc | apply Kd.S_drewN | apply Kd.S_drew)); exact HO_30.out) hg hat); replace BK1093 := Aside0.mk (blk_grown (g := gb1093) (o := .cells #[.int .i64 t1083, .int .i64 t1084, .int .i64 t1085] 34 (0, 0)) (qb BK1093) hg (Kd.R_ne HO_12.out BK1093.out (by decide))); replace HB := Aside0.mk (hb); have HO1112 := Aside0.mk (ho); clear HO_12; clear ho hb hg hat))
                 go_roundg k3
                 case measure => have := HJ2.out; have := HK2.out; have := HK3.out; omega
                 case rel => exact ⟨(y1110), (wrap64 (x42_3 + 1)), (by first | rfl | (simp; done) | (simp [*]; done)), H', ⟨by have := HJ2.out; have := HK2.out; have := HK3.out; omega⟩, ⟨by (with_reducible repeat (first | apply Kd.R_alloc | apply Kd.R_drewN | apply Kd.R_drew)); exact HO_6.out⟩, ⟨by (with_reducible repeat (first | apply Kd.S_alloc | apply Kd.S_drewN | apply Kd.S_drew)); exact HO_7.out⟩, ⟨by (with_reducible repeat (first | apply Kd.S_alloc | apply Kd.S_drewN | apply Kd.S_drew)); exact Kd.S_mono HO_9.out (fun _ hk => ⟨hk.1.1, ⟨hk.2, hk.1.2⟩⟩)⟩, ⟨by (with_reducible repeat (first | apply Kd.R_alloc | apply Kd.R_drewN | apply Kd.R_drew)); exact HO1112.out⟩, ⟨by (with_reducible repeat (first | apply Kd.S_alloc | apply Kd.S_drewN | apply Kd.S_drew)); exact HO_30.out⟩, ⟨qb BK1093⟩, ⟨(qs HB)⟩, ⟨by repeat (first | exact HF.out | (with_reducible refine Kd.F_alloc ?_ _) | (with_reducible refine Kd.F_drewN ?_ _) | (with_reducible refine Kd.F_drew ?_))⟩⟩
                rw [if_neg c24] at H
                exact absurd H (by simp)
               rw [if_neg c23] at H
               exact absurd H (by simp)
              rw [if_neg c22] at H
              exact absurd H (by simp)
             rw [if_neg c21] at H
             have c21b0 : decide ((x12_3.length : Int) < 10) = false := decide_eq_false c21
             have c21b1 : decide (x12_3.length < 10) = false := decide_eq_false (by omega)
             clear c21
             have H' := Aside0.mk H
             clear H
             go_wp2_with (first | ((with_reducible refine gate_callee (f := 47) rfl ?_); refine goesLA (some 49) rfl Try.func47 #[.slice A1 l1.length c1, .int .i64 (wrap64 (x32_2 + x42_3))] ?_; (with_reducible refine (laws_wByte.calls _ _ l1 (wrap64 (x32_2 + x42_3)) t1108 _ ?side1 ?side2 A19.out).mono ?_); (case side1 => exact qc (Kd.C_below HR1.out HB.out)); (case side2 => exact HC1.out); rintro e w' ⟨rfl, ⟨nd, rfl⟩⟩; refine ⟨_, rfl, ?_⟩; obtain ⟨Ao27, co27, eo27⟩ := Kd.R_slice HO_12.out; subst eo27))
             go_roundg k3
             case measure => have := HJ2.out; have := HK2.out; have := HK3.out; omega
             case rel => exact ⟨(x12_3), (wrap64 (x42_3 + 1)), (by first | rfl | (simp; done) | (simp [*]; done)), H', ⟨by have := HJ2.out; have := HK2.out; have := HK3.out; omega⟩, ⟨by (with_reducible repeat (first | apply Kd.R_alloc | apply Kd.R_drewN | apply Kd.R_drew)); exact HO_6.out⟩, ⟨by (with_reducible repeat (first | apply Kd.S_alloc | apply Kd.S_drewN | apply Kd.S_drew)); exact HO_7.out⟩, ⟨by (with_reducible repeat (first | apply Kd.S_alloc | apply Kd.S_drewN | apply Kd.S_drew)); exact HO_9.out⟩, ⟨by (with_reducible repeat (first | apply Kd.R_alloc | apply Kd.R_drewN | apply Kd.R_drew)); exact HO_12.out⟩, ⟨by (with_reducible repeat (first | apply Kd.S_alloc | apply Kd.S_drewN | apply Kd.S_drew)); exact HO_30.out⟩, ⟨qb BK1093⟩, ⟨(qs HB)⟩, ⟨by repeat (first | exact HF.out | (with_reducible refine Kd.F_alloc ?_ _) | (with_reducible refine Kd.F_drewN ?_ _) | (with_reducible refine Kd.F_drew ?_))⟩⟩
            rw [if_neg c20] at H
            have c20b0 : ((Int.tmod t1108 2) == 0) = false := beq_eq_false_iff_ne.mpr c20
            have c20b1 : ((Int.tmod t1108 2) != 0) = true := bne_iff_ne.mpr c20
            have H' := Aside0.mk H
            clear H
            go_wp2_with (first | ((with_reducible refine gate_callee (f := 47) rfl ?_); refine goesLA (some 49) rfl Try.func47 #[.slice A1 l1.length c1, .int .i64 (wrap64 (x32_2 + x42_3))] ?_; (with_reducible refine (laws_wByte.calls _ _ l1 (wrap64 (x32_2 + x42_3)) t1108 _ ?side1 ?side2 A19.out).mono ?_); (case side1 => exact qc (Kd.C_below HR1.out HB.out)); (case side2 => exact HC1.out); rintro e w' ⟨rfl, ⟨nd, rfl⟩⟩; refine ⟨_, rfl, ?_⟩))
            go_roundg k3
            case measure => have := HJ2.out; have := HK2.out; have := HK3.out; omega
            case rel => exact ⟨(x12_3), (wrap64 (x42_3 + 1)), (by first | rfl | (simp; done) | (simp [*]; done)), H', ⟨by have := HJ2.out; have := HK2.out; have := HK3.out; omega⟩, ⟨by (with_reducible repeat (first | apply Kd.R_alloc | apply Kd.R_drewN | apply Kd.R_drew)); exact HO_6.out⟩, ⟨by (with_reducible repeat (first | apply Kd.S_alloc | apply Kd.S_drewN | apply Kd.S_drew)); exact HO_7.out⟩, ⟨by (with_reducible repeat (first | apply Kd.S_alloc | apply Kd.S_drewN | apply Kd.S_drew)); exact HO_9.out⟩, ⟨by (with_reducible repeat (first | apply Kd.R_alloc | apply Kd.R_drewN | apply Kd.R_drew)); exact HO_12.out⟩, ⟨by (with_reducible repeat (first | apply Kd.S_alloc | apply Kd.S_drewN | apply Kd.S_drew)); exact HO_30.out⟩, ⟨qb BK1093⟩, ⟨(qs HB)⟩, ⟨by repeat (first | exact HF.out | (with_reducible refine Kd.F_alloc ?_ _) | (with_reducible refine Kd.F_drewN ?_ _) | (with_reducible refine Kd.F_drew ?_))⟩⟩
           rw [if_neg c18] at H
           have c18b0 : decide (x42_3 < ((rd_L5 t1089 x32_2).length : Int)) = false := decide_eq_false c18
           clear c18
           by_cases c28 : x9_2.length < 5864062014805
           ·rw [if_pos c28] at H
            have LMc28 := Aside0.mk c28
            clear c28
            obtain ⟨y1113, hy1113⟩ : ∃ y_ : List (List Int), y_ = (x9_2 ++ [x12_3]) := ⟨_, rfl⟩
            replace H : (laws_FnTwice.l0 k3 l1 t1086 t1089 t1092 y1113 t1089 (t1089.length : Int) (wrap64 (x32_2 + 1)) t1083 t1084 t1085) = some true := by first | (rw [hy1113]; with_reducible exact H) | (have H2_ := (Option.bind_some _ _).symm.trans H; rw [hy1113]; with_reducible exact H2_) | (have H2_ := (Option.bind_some _ _).symm.trans H; with_reducible exact H2_) | with_reducible exact H | (rw [hy1113]; exact H) | exact H
            have Ny1113 := Aside0.mk hy1113
            clear hy1113
            have H' := Aside0.mk H
            clear H
            obtain ⟨Ao30, co30, eo30⟩ := Kd.R_slice HO_12.out
            subst eo30
            go_wp2_with (first | ((with_reducible refine gate_builtin (b := .append) (xs := #[.tmp 65, .tmp 67]) rfl ?_); (try (refine gate_guard (by rfl) ?_; dsimp only)); at_builtin; refine Kd.S_append (Kd.slice 3 (Kd.int .i64)) (w0 := w) w.heap.size rfl (.tmp 65) (.tmp 67) 65 82 (.slice none 0 0) 24 rfl Try.underlying65 info82 rfl (by decide) (by omega) u9 x9_2 x12_3 [.slice Ao30 x12_3.length co30] (fun k_ => some k_ ≠ (.slice (some ad1101) t1089.length co10 : Value).ownBlock ∧ some k_ ≠ (.slice (some ad1101) t1089.length co10 : Value).ownBlock) (fun k_ => some k_ = (.slice Ao30 x12_3.length co30 : Value).ownBlock) rfl rfl ?aP (fun k_ hk_ => ((Kd.R_mono (ok' := fun k_ => ((fun k_ => some k_ ≠ (.slice (some ad1101) t1089.length co10 : Value).ownBlock ∧ some k_ ≠ (.slice (some ad1101) t1089.length co10 : Value).ownBlock)) k_ ∧ some k_ ≠ (u9 : Value).ownBlock) (Kd.R_apart' (Kd.R_apart' (Kd.R_apart' (HO_12.out) (Kd.S_typed HO_7.out) (by decide)) (Kd.S_typed HO_30.out) (by decide)) (Kd.S_typed HO_9.out) (by decide)) (fun k_ hk => ⟨⟨hk.1.1.2, hk.1.2⟩, hk.2⟩))).1 k_ hk_.symm) ?aF ?aO ?aB ?aS ?aL ?_; (case aP => exact Kd.M_row (Kd.R_mono (Kd.R_tight rfl (Kd.R_mono (ok' := fun k_ => ((fun k_ => some k_ ≠ (.slice (some ad1101) t1089.length co10 : Value).ownBlock ∧ some k_ ≠ (.slice (some ad1101) t1089.length co10 : Value).ownBlock)) k_ ∧ some k_ ≠ (u9 : Value).ownBlock) (Kd.R_apart' (Kd.R_apart' (Kd.R_apart' (HO_12.out) (Kd.S_typed HO_7.out) (by decide)) (Kd.S_typed HO_30.out) (by decide)) (Kd.S_typed HO_9.out) (by decide)) (fun k_ hk => ⟨⟨hk.1.1.2, hk.1.2⟩, hk.2⟩))) (fun _ h_ => h_))); (case aB => exact (qs HB)); (case aF => exact (fun k_ hk => ⟨Kd.fresh' (Kd.S_lt (by (with_reducible repeat (first | apply Kd.S_alloc | apply Kd.S_drewN | apply Kd.S_drew)); exact HO_7.out)) k_ hk, Kd.fresh' (Kd.S_lt (by (with_reducible repeat (first | apply Kd.S_alloc | apply Kd.S_drewN | apply Kd.S_drew)); exact HO_30.out)) k_ hk⟩)); (case aO => exact (by (with_reducible repeat (first | apply Kd.S_alloc | apply Kd.S_drewN | apply Kd.S_drew)); exact Kd.S_mono HO_9.out (fun k_ hk => ⟨⟨hk.1, hk.2.2⟩, fun e_ => hk.2.1 e_⟩))); (case aS => exact (below_size (qs HB))); (case aL => have := LMc28.out; omega); intro v1114 w29 ho hb hg hat; rw [← Ny1113.out] at ho; replace HO_6 := Aside0.mk (Kd.R_over' (qr HO_6) (Kd.S_typed (by (with_reducible repeat (first | apply Kd.S_alloc | apply Kd.S_drewN | apply Kd.S_drew)); exact HO_9.out)) (by decide) hg); replace HO_7 := Aside0.mk (Kd.S_after (ok := (fun k_ => some k_ ≠ (.slice Ao30 x12_3.length co30 : Value).ownBlock)) (by (with_reducible repeat (first | apply Kd.S_alloc | apply Kd.S_drewN | apply Kd.S_drew)); exact Kd.S_mono HO_7.out (fun _ hk => ⟨hk.2, hk.1⟩)) hg hat); replace HO_30 := Aside0.mk (Kd.S_after (ok := (fun k_ => some k_ ≠ (.slice Ao30 x12_3.length co30 : Value).ownBlock)) (by (with_reducible repeat (first | apply Kd.S_alloc | apply Kd.S_drewN | apply Kd.S_drew)); exact Kd.S_mono HO_30.out (fun _ hk => ⟨hk.2, hk.1⟩)) hg hat); replace BK1093 := Aside0.mk (blk_grown (g := gb1093) (o := .cells #[.int .i64 t1083, .int .i64 t1084, .int .i64 t1085] 34 (0, 0)) (qb BK1093) hg (Kd.S_ne HO_9.out BK1093.out (by decide))); replace HB := Aside0.mk (hb); have HO1115 := Aside0.mk (ho); clear HO_9 HO_12; clear ho hb hg hat))
            go_roundg k3
            case measure => have := HJ2.out; have := HK2.out; have := HK3.out; omega
            case rel => exact ⟨(y1113), (wrap64 (x32_2 + 1)), (by first | rfl | (simp; done) | (simp [*]; done)), H', ⟨by have := HJ2.out; have := HK2.out; have := HK3.out; omega⟩, ⟨by (with_reducible repeat (first | apply Kd.R_alloc | apply Kd.R_drewN | apply Kd.R_drew)); exact HO_6.out⟩, ⟨by (with_reducible repeat (first | apply Kd.S_alloc | apply Kd.S_drewN | apply Kd.S_drew)); exact Kd.S_mono HO_7.out (fun _ hk => hk.2)⟩, ⟨by (with_reducible repeat (first | apply Kd.S_alloc | apply Kd.S_drewN | apply Kd.S_drew)); exact HO1115.out⟩, ⟨by (with_reducible repeat (first | apply Kd.S_alloc | apply Kd.S_drewN | apply Kd.S_drew)); exact Kd.S_mono HO_30.out (fun _ hk => hk.2)⟩, ⟨qb BK1093⟩, ⟨(qs HB)⟩⟩
           rw [if_neg c28] at H
           exact absurd H (by simp)
        rw [if_neg c14] at H
        exact absurd H (by simp)
       rw [if_neg c13] at H
       exact absurd H (by simp)
      rw [if_neg c12] at H
      exact absurd H (by simp)
     rw [if_neg c11] at H
     have c11b0 : decide (x32_2 < (t1089.length : Int)) = false := decide_eq_false c11
     clear c11
     replace H := Option.bind_eq_some_iff.mp H
     obtain ⟨t1094, A310, H⟩ := H
     replace H : ((impl_Run.f t1083 t1084 t1085 t1086 x9_2 t1092).bind fun t1097 => ((laws_wMoments.f k2 t1094 t1097).bind fun t1100 => (if t1100 = true then (some ((t1094.length : Int) == t1092)) else (some false)))) = some true := H
     have A31 := Aside0.mk A310
     clear A310
     replace H := Option.bind_eq_some_iff.mp H
     obtain ⟨t1097, A320, H⟩ := H
     replace H : ((laws_wMoments.f k2 t1094 t1097).bind fun t1100 => (if t1100 = true then (some ((t1094.length : Int) == t1092)) else (some false))) = some true := H
     have A32 := Aside0.mk A320
     clear A320
     replace H := Option.bind_eq_some_iff.mp H
     obtain ⟨t1100, A330, H⟩ := H
     replace H : (if t1100 = true then (some ((t1094.length : Int) == t1092)) else (some false)) = some true := H
     have A33 := Aside0.mk A330
     clear A330
     by_cases c34 : t1100 = true
     ·subst c34
      have H1 : (some ((t1094.length : Int) == t1092)) = some true := by rw [if_pos rfl] at H; exact H
      clear H; have H := H1; clear H1
      have HT := Option.some.inj H
      have hcz35_0 := b0 BK1093
      have hcz35_1 := b1 BK1093
      have hcz35_2 := b2 BK1093
      have hfz35_0 := blk_frozen BK1093.out 0
      have hfz35_1 := blk_frozen BK1093.out 1
      have hfz35_2 := blk_frozen BK1093.out 2
      obtain ⟨Ao36, co36, eo36⟩ := Kd.R_slice HO_6.out
      subst eo36
      go_wp2_with (first | ((with_reducible refine gate_callee (f := 38) rfl ?_); refine goesLA (some 74) rfl Try.func38 #[.agg #[.int .i64 t1083, .int .i64 t1084, .int .i64 t1085], .slice Ao36 t1086.length co36, .slice Ao10 t1089.length co10, .int .i64 t1092] ?_; (with_reducible refine (impl_Run.calls t1083 t1084 t1085 _ _ t1086 _ _ t1089 t1092 t1094 _ ?side1 ?side2 ?side3 ?side4 A31.out).mono ?_); (case side1 => exact qc (Kd.R_reads' HO_6.out).2.2); (case side2 => exact (Kd.R_reads' HO_6.out).2.1); (case side3 => repeat (first | exact (Kd.S_reads' HO_7.out).2.2 | (with_reducible refine Kd.C_alloc ?_ _) | (with_reducible refine Kd.C_drewN ?_ _) | (with_reducible refine Kd.C_drew ?_))); (case side4 => exact (Kd.S_reads' HO_7.out).2.1); rintro e w37 ⟨v1095, rfl, ho0, hb⟩; refine ⟨_, rfl, ?_⟩; replace HO_6 := rbl HO_6 hb; replace HO_7 := Aside0.mk (Kd.S_below (by (with_reducible repeat (first | apply Kd.S_alloc | apply Kd.S_drewN | apply Kd.S_drew)); exact HO_7.out) hb); replace HO_9 := Aside0.mk (Kd.S_below (by (with_reducible repeat (first | apply Kd.S_alloc | apply Kd.S_drewN | apply Kd.S_drew)); exact HO_9.out) hb); replace HO_30 := Aside0.mk (Kd.S_below (by (with_reducible repeat (first | apply Kd.S_alloc | apply Kd.S_drewN | apply Kd.S_drew)); exact HO_30.out) hb); have HO1096 := Aside0.mk (Kd.R_lower ho0 (below_size (qs HB))); replace BK1093 := bkb BK1093 hb; replace HB := bst HB hb; clear hb; (try clear ho0); have hcz38_0 := b0 BK1093; have hcz38_1 := b1 BK1093; have hcz38_2 := b2 BK1093; have hfz38_0 := blk_frozen BK1093.out 0; have hfz38_1 := blk_frozen BK1093.out 1; have hfz38_2 := blk_frozen BK1093.out 2; obtain ⟨Ao39, co39, eo39⟩ := Kd.S_slice HO_9.out; subst eo39) | ((with_reducible refine gate_callee (f := 38) rfl ?_); refine goesLA (some 80) rfl Try.func38 #[.agg #[.int .i64 t1083, .int .i64 t1084, .int .i64 t1085], .slice Ao36 t1086.length co36, .slice Ao39 x9_2.length co39, .int .i64 t1092] ?_; (with_reducible refine (impl_Run.calls t1083 t1084 t1085 _ _ t1086 _ _ x9_2 t1092 t1097 _ ?side1 ?side2 ?side3 ?side4 A32.out).mono ?_); (case side1 => exact qc (Kd.R_reads' HO_6.out).2.2); (case side2 => exact (Kd.R_reads' HO_6.out).2.1); (case side3 => repeat (first | exact (Kd.S_reads' HO_9.out).2.2 | (with_reducible refine Kd.C_alloc ?_ _) | (with_reducible refine Kd.C_drewN ?_ _) | (with_reducible refine Kd.C_drew ?_))); (case side4 => exact (Kd.S_reads' HO_9.out).2.1); rintro e w40 ⟨v1098, rfl, ho0, hb⟩; refine ⟨_, rfl, ?_⟩; replace HO_6 := rbl HO_6 hb; replace HO_7 := Aside0.mk (Kd.S_below (by (with_reducible repeat (first | apply Kd.S_alloc | apply Kd.S_drewN | apply Kd.S_drew)); exact HO_7.out) hb); replace HO_9 := Aside0.mk (Kd.S_below (by (with_reducible repeat (first | apply Kd.S_alloc | apply Kd.S_drewN | apply Kd.S_drew)); exact HO_9.out) hb); replace HO_30 := Aside0.mk (Kd.S_below (by (with_reducible repeat (first | apply Kd.S_alloc | apply Kd.S_drewN | apply Kd.S_drew)); exact HO_30.out) hb); have HO1099 := Aside0.mk (Kd.R_lower (Kd.R_new' ho0 (Kd.R_lt (qr HO1096))) (below_size (qs HB))); replace HO1096 := Aside0.mk (Kd.R_elder' (qr HO1096) (Kd.R_base ho0) hb); replace BK1093 := bkb BK1093 hb; replace HB := bst HB hb; clear hb; (try clear ho0); obtain ⟨Ao41, co41, eo41⟩ := Kd.R_slice HO1096.out; subst eo41; obtain ⟨Ao42, co42, eo42⟩ := Kd.R_slice HO1099.out; subst eo42) | ((with_reducible refine gate_callee (f := 53) rfl ?_); refine goesLA (some 81) rfl Try.func53 #[.slice Ao41 t1094.length co41, .slice Ao42 t1097.length co42] ?_; (with_reducible refine (laws_wMoments.calls k2 _ _ t1094 _ _ t1097 true _ ?side1 ?side2 ?side3 ?side4 A33.out).mono ?_); (case side1 => exact qc (Kd.R_reads' HO1096.out).2.2); (case side2 => exact (Kd.R_reads' HO1096.out).2.1); (case side3 => exact qc (Kd.R_reads' HO1099.out).2.2); (case side4 => exact (Kd.R_reads' HO1099.out).2.1); rintro e w' ⟨rfl, ⟨nd, rfl⟩⟩; refine ⟨_, rfl, ?_⟩))
      go_ret
      exact ⟨by first | rfl | (simp [errW_none, errW_some] <;> rfl) | (simp [*, errW_none, errW_some] <;> rfl), (qs HB)⟩
     replace c34 := Bool.eq_false_iff.mpr c34
     subst c34
     have H1 : (some false) = some true := by rw [if_neg (show ¬ (false = true) by decide)] at H; exact H
     clear H; have H := H1; clear H1
     exact absurd H (by simp)
end Go.Proofs.Ytndffnacbfdnoaa.PAll
