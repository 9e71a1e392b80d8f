-- Lines of PAllx20 that this claim uses.
import Derived.Test.YtndffnacbfdnoaaRUSqd
import Derived.Test.YtndffnacbfdnoaaRUSq
import Derived.Test.YtndffnacbfdnoaaRUPAllx0
import Derived.Test.YtndffnacbfdnoaaRUPAllx5
namespace Go.Proofs.Ytndffnacbfdnoaa.PAll
open Go.RowKit Go.Proofs.YtndffnacbfdnoaaW.PrintWords Go.Proofs.YtndffnacbfdnoaaW.PrintLast Go.Proofs.YtndffnacbfdnoaaW.PrintMore
attribute [local go_sem] max2_int min2_int max_two min_two max_three min_three max_four min_four
set_option linter.unusedVariables false
set_option linter.unusedSimpArgs false
def laws_szSetS.f (l0 : List (S127)) (a1 : Int) : Option (Int) := if (wrap64 (a1 - (l0.length : Int))) < 0 then (some (-1)) else (some (wrap64 (a1 - (l0.length : Int))))
set_option maxHeartbeats 8000000 in
set_option maxRecDepth 100000 in
theorem laws_szSetS.calls (A0 : Option Addr) (c0 : Nat) (l0 : List (S127)) (a1 : Int) (r : Int) (w : World) (hr0 : Kd.C k127 w A0 l0.length l0) (hc0 : l0.length ≤ c0) (h : laws_szSetS.f l0 a1 = some r) :
  Calls Try.prog 33 #[.slice A0 l0.length c0, .int .i64 a1] w fun e w' => e = .returned (.int .i64 r) ∧ Drawn0 w w' := by
 have HR0 := Aside0.mk hr0
 have HC0 := Aside0.mk hc0
 clear hr0 hc0
 have H : (if (wrap64 (a1 - (l0.length : Int))) < 0 then (some (-1)) else (some (wrap64 (a1 - (l0.length : Int))))) = some r := h
 clear h
 by_cases c3 : (wrap64 (a1 - (l0.length : Int))) < 0
 ·rw [if_pos c3] at H
  have c3b0 : decide ((wrap64 (a1 - (l0.length : Int))) < 0) = true := decide_eq_true c3
  clear c3
  obtain rfl := Option.some.inj H
  go_enter Try.func33, Try.ntmps33
  go_wp2
  go_ret
  exact ⟨by first | rfl | (simp; done) | (simp [*]; done), by repeat (first | exact Drawn0.refl _ | apply Drawn0.step)⟩
 rw [if_neg c3] at H
 have c3b0 : decide ((wrap64 (a1 - (l0.length : Int))) < 0) = false := decide_eq_false c3
 clear c3
 obtain rfl := Option.some.inj H
 go_enter Try.func33, Try.ntmps33
 go_wp2
 go_ret
 exact ⟨by first | rfl | (simp; done) | (simp [*]; done), by repeat (first | exact Drawn0.refl _ | apply Drawn0.step)⟩
def laws_szIntS.f (l0 : List Int) (a1 : Int) : Option (Int) := if (wrap64 (a1 - (l0.length : Int))) < 0 then (some (-1)) else (some (wrap64 (a1 - (l0.length : Int))))
set_option maxHeartbeats 8000000 in
set_option maxRecDepth 100000 in
theorem laws_szIntS.calls (A0 : Option Addr) (c0 : Nat) (l0 : List Int) (a1 : Int) (r : Int) (w : World) (hr0 : Kd.C (Kd.int .i64) w A0 l0.length l0) (hc0 : l0.length ≤ c0) (h : laws_szIntS.f l0 a1 = some r) :
  Calls Try.prog 76 #[.slice A0 l0.length c0, .int .i64 a1] w fun e w' => e = .returned (.int .i64 r) ∧ Drawn0 w w' := by
 have HR0 := Aside0.mk hr0
 have HC0 := Aside0.mk hc0
 clear hr0 hc0
 have H : (if (wrap64 (a1 - (l0.length : Int))) < 0 then (some (-1)) else (some (wrap64 (a1 - (l0.length : Int))))) = some r := h
 clear h
 by_cases c3 : (wrap64 (a1 - (l0.length : Int))) < 0
 ·rw [if_pos c3] at H
  have c3b0 : decide ((wrap64 (a1 - (l0.length : Int))) < 0) = true := decide_eq_true c3
  clear c3
  obtain rfl := Option.some.inj H
  go_enter Try.func76, Try.ntmps76
  go_wp2
  go_ret
  exact ⟨by first | rfl | (simp; done) | (simp [*]; done), by repeat (first | exact Drawn0.refl _ | apply Drawn0.step)⟩
 rw [if_neg c3] at H
 have c3b0 : decide ((wrap64 (a1 - (l0.length : Int))) < 0) = false := decide_eq_false c3
 clear c3
 obtain rfl := Option.some.inj H
 go_enter Try.func76, Try.ntmps76
 go_wp2
 go_ret
 exact ⟨by first | rfl | (simp; done) | (simp [*]; done), by repeat (first | exact Drawn0.refl _ | apply Drawn0.step)⟩
def laws_szIntSS.l0 : Nat → List (List Int) → Int → Int → Option (Int)
 | 0, _, _, _ => none
 | k + 1, x0, x1, x5 => if x5 < (x0.length : Int) then (if 0 ≤ x5 then ((laws_szIntS.f (rd_L5 x0 x5) x1).bind fun t806 => (if t806 < 0 then (some (-1)) else (laws_szIntSS.l0 k x0 t806 (wrap64 (x5 + 1))))) else (none)) else (some x1)
def laws_szIntSS.f (k : Nat) (l0 : List (List Int)) (a1 : Int) : Option (Int) := if (wrap64 (a1 - (l0.length : Int))) < 0 then (some (-1)) else (laws_szIntSS.l0 k l0 (wrap64 (a1 - (l0.length : Int))) 0)
set_option maxHeartbeats 8000000 in
set_option maxRecDepth 100000 in
theorem laws_szIntSS.calls (k : Nat) (A0 : Option Addr) (c0 : Nat) (l0 : List (List Int)) (a1 : Int) (r : Int) (w : World) (hr0 : Kd.C (Kd.slice 3 (Kd.int .i64)) w A0 l0.length l0) (hc0 : l0.length ≤ c0) (h : laws_szIntSS.f k l0 a1 = some r) :
  Calls Try.prog 34 #[.slice A0 l0.length c0, .int .i64 a1] w fun e w' => e = .returned (.int .i64 r) ∧ Drawn0 w w' := by
 have HR0 := Aside0.mk hr0
 have HC0 := Aside0.mk hc0
 clear hr0 hc0
 have H : (if (wrap64 (a1 - (l0.length : Int))) < 0 then (some (-1)) else (laws_szIntSS.l0 k l0 (wrap64 (a1 - (l0.length : Int))) 0)) = some r := h
 clear h
 by_cases c3 : (wrap64 (a1 - (l0.length : Int))) < 0
 ·rw [if_pos c3] at H
  have c3b0 : decide ((wrap64 (a1 - (l0.length : Int))) < 0) = true := decide_eq_true c3
  clear c3
  obtain rfl := Option.some.inj H
  go_enter Try.func34, Try.ntmps34
  go_wp2
  go_ret
  exact ⟨by first | rfl | (simp; done) | (simp [*]; done), by repeat (first | exact Drawn0.refl _ | apply Drawn0.step)⟩
 rw [if_neg c3] at H
 have c3b0 : decide ((wrap64 (a1 - (l0.length : Int))) < 0) = false := decide_eq_false c3
 clear c3
 have H' := Aside0.mk H
 clear H
 go_enter Try.func34, Try.ntmps34
 go_wp2
 go_loopg [1, 5] k (fun kq v1 v5 w' => ∃ (x1_1 : Int) (x5_1 : Int), v1 = .int .i64 x1_1 ∧ v5 = .int .i64 x5_1 ∧ Aside0 (laws_szIntSS.l0 kq l0 x1_1 x5_1 = some r) ∧ Aside0 (kq ≤ k) ∧ Drawn0 w w')
 case atStart => exact ⟨(wrap64 (a1 - (l0.length : Int))), (0), (by first | rfl | (simp; done) | (simp [*]; done)), (by first | rfl | (simp; done) | (simp [*]; done)), H', ⟨Nat.le_refl _⟩, by repeat (first | exact Drawn0.refl _ | apply Drawn0.step)⟩
 case round =>
  clear H'
  try clear p2; try clear c3; try clear c3b0
  obtain ⟨x1_1, x5_1, rfl, rfl, HA, HK1, ⟨m1, rfl⟩⟩ := hrel
  cases gk with
  | zero => exact absurd HA.out (by simp [laws_szIntSS.l0])
  | succ k1 =>
   have H := HA.out
   clear HA
   simp only [laws_szIntSS.l0] at H
   by_cases c4 : x5_1 < (l0.length : Int)
   ·rw [if_pos c4] at H
    have c4b0 : decide (x5_1 < (l0.length : Int)) = true := decide_eq_true c4
    clear c4
    by_cases c5 : 0 ≤ x5_1
    ·rw [if_pos c5] at H
     have c5b0 : decide (0 ≤ x5_1) = true := decide_eq_true c5
     clear c5
     replace H := Option.bind_eq_some_iff.mp H
     obtain ⟨t806, A60, H⟩ := H
     replace H : (if t806 < 0 then (some (-1)) else (laws_szIntSS.l0 k1 l0 t806 (wrap64 (x5_1 + 1)))) = some r := H
     have A6 := Aside0.mk A60
     clear A60
     by_cases c7 : t806 < 0
     ·rw [if_pos c7] at H
      have c7b0 : decide (t806 < 0) = true := decide_eq_true c7
      clear c7
      obtain rfl := Option.some.inj H
      have p805 : 0 ≤ (x5_1 : Int) := of_decide_eq_true (by assumption)
      have q805 : x5_1 < (l0.length : Int) := of_decide_eq_true (by assumption)
      obtain ⟨ad805, A805_0, c805_0, e805, hx805_0, hl805_0, hi805_0⟩ := at_L5 HR0.out x5_1 p805 q805
      cases e805
      have HR805_0 := Aside0.mk hi805_0
      have HC805_0 := Aside0.mk hl805_0
      clear hi805_0 hl805_0
      replace p805 := eq_true p805
      replace q805 := eq_true q805
      go_wp2_with (first | ((with_reducible refine gate_callee (f := 76) rfl ?_); refine goesLA (some 23) rfl Try.func76 #[.slice A805_0 (rd_L5 l0 x5_1).length c805_0, .int .i64 x1_1] ?_; (with_reducible refine (laws_szIntS.calls _ _ (rd_L5 l0 x5_1) x1_1 t806 _ ?side1 ?side2 A6.out).mono ?_); (case side1 => repeat (first | exact HR805_0.out | (with_reducible refine Kd.C_alloc ?_ _) | (with_reducible refine Kd.C_drewN ?_ _) | (with_reducible refine Kd.C_drew ?_))); (case side2 => exact HC805_0.out); rintro e w' ⟨rfl, ⟨nd, rfl⟩⟩; refine ⟨_, rfl, ?_⟩))
      go_ret
      exact ⟨by first | rfl | (simp; done) | (simp [*]; done), by repeat (first | exact Drawn0.refl _ | apply Drawn0.step)⟩
     rw [if_neg c7] at H
     have c7b0 : decide (t806 < 0) = false := decide_eq_false c7
     clear c7
     have H' := Aside0.mk H
     clear H
     have p805 : 0 ≤ (x5_1 : Int) := of_decide_eq_true (by assumption)
     have q805 : x5_1 < (l0.length : Int) := of_decide_eq_true (by assumption)
     obtain ⟨ad805, A805_0, c805_0, e805, hx805_0, hl805_0, hi805_0⟩ := at_L5 HR0.out x5_1 p805 q805
     cases e805
     have HR805_0 := Aside0.mk hi805_0
     have HC805_0 := Aside0.mk hl805_0
     clear hi805_0 hl805_0
     replace p805 := eq_true p805
     replace q805 := eq_true q805
     go_wp2_with (first | ((with_reducible refine gate_callee (f := 76) rfl ?_); refine goesLA (some 23) rfl Try.func76 #[.slice A805_0 (rd_L5 l0 x5_1).length c805_0, .int .i64 x1_1] ?_; (with_reducible refine (laws_szIntS.calls _ _ (rd_L5 l0 x5_1) x1_1 t806 _ ?side1 ?side2 A6.out).mono ?_); (case side1 => repeat (first | exact HR805_0.out | (with_reducible refine Kd.C_alloc ?_ _) | (with_reducible refine Kd.C_drewN ?_ _) | (with_reducible refine Kd.C_drew ?_))); (case side2 => exact HC805_0.out); rintro e w' ⟨rfl, ⟨nd, rfl⟩⟩; refine ⟨_, rfl, ?_⟩))
     go_roundg k1
     case measure => have := HK1.out; omega
     case rel => exact ⟨(t806), (wrap64 (x5_1 + 1)), (by first | rfl | (simp; done) | (simp [*]; done)), (by first | rfl | (simp; done) | (simp [*]; done)), H', ⟨by have := HK1.out; omega⟩, by repeat (first | exact Drawn0.refl _ | apply Drawn0.step)⟩
    rw [if_neg c5] at H
    exact absurd H (by simp)
   rw [if_neg c4] at H
   have c4b0 : decide (x5_1 < (l0.length : Int)) = false := decide_eq_false c4
   clear c4
   obtain rfl := Option.some.inj H
   go_wp2
   go_ret
   exact ⟨by first | rfl | (simp; done) | (simp [*]; done), by repeat (first | exact Drawn0.refl _ | apply Drawn0.step)⟩
def spec_l3sets.l0 : Nat → List (S84) → Int → Int → List (S84) → Int → Int → Option (Bool)
 | 0, _, _, _, _, _, _ => none
 | k + 1, x0, x1, x5, x8, x9, x10 => if x10 < x9 then (if 0 ≤ x10 then (if x10 < (x8.length : Int) then ((spec_l1in.f ((rd_T84 x8 x10).f0) x5 x1).bind fun t809 => (if t809 = true then (spec_l3sets.l0 k x0 x1 ((rd_T84 x8 x10).f0) x8 x9 (wrap64 (x10 + 1))) else (some false))) else (none)) else (none)) else (some (decide ((x0.length : Int) ≤ 200)))
def spec_l3sets.f (k : Nat) (l0 : List (S84)) (a1 : Int) : Option (Bool) := spec_l3sets.l0 k l0 a1 1 l0 (l0.length : Int) 0
set_option maxHeartbeats 8000000 in
set_option maxRecDepth 100000 in
theorem spec_l3sets.calls (k : Nat) (A0 : Option Addr) (c0 : Nat) (l0 : List (S84)) (a1 : Int) (r : Bool) (w : World) (hr0 : Kd.C k84 w A0 l0.length l0) (hc0 : l0.length ≤ c0) (h : spec_l3sets.f k l0 a1 = some r) :
  Calls Try.prog 78 #[.slice A0 l0.length c0, .int .i64 a1] w fun e w' => e = .returned (.bool r) ∧ Below w.heap.size w w' := by
 have hu84 := Try.underlying84
 have HR0 := Aside0.mk hr0
 have HC0 := Aside0.mk hc0
 clear hr0 hc0
 have HB := Aside0.mk (Below.refl w.heap.size w)
 have H : (spec_l3sets.l0 k l0 a1 1 l0 (l0.length : Int) 0) = some r := h
 clear h
 have H' := Aside0.mk H
 clear H
 go_enter Try.func78, Try.ntmps78
 go_wp2
 go_loopg [5, 10] k (fun kq v5 v10 w' => ∃ (x5_1 : Int) (x10_1 : Int), v5 = .int .i64 x5_1 ∧ v10 = .int .i64 x10_1 ∧ Aside0 (spec_l3sets.l0 kq l0 a1 x5_1 l0 (l0.length : Int) x10_1 = some r) ∧ Aside0 (kq ≤ k) ∧ Aside0 (Below w.heap.size w w'))
 case atStart => exact ⟨(1), (0), (by first | rfl | (simp; done) | (simp [*]; done)), (by first | rfl | (simp; done) | (simp [*]; done)), H', ⟨Nat.le_refl _⟩, ⟨(qs HB)⟩⟩
 case round =>
  clear H'
  try clear p2
  obtain ⟨x5_1, x10_1, rfl, rfl, HA, HK1, HB⟩ := hrel
  cases gk with
  | zero => exact absurd HA.out (by simp [spec_l3sets.l0])
  | succ k1 =>
   have H := HA.out
   clear HA
   simp only [spec_l3sets.l0] at H
   by_cases c3 : x10_1 < (l0.length : Int)
   ·rw [if_pos c3] at H
    have c3b0 : decide (x10_1 < (l0.length : Int)) = true := decide_eq_true c3
    clear c3
    by_cases c4 : 0 ≤ x10_1
    ·rw [if_pos c4] at H
     have c4b0 : decide (0 ≤ x10_1) = true := decide_eq_true c4
     clear c4
     by_cases c5 : x10_1 < (l0.length : Int)
     ·rw [if_pos c5] at H
      have c5b0 : decide (x10_1 < (l0.length : Int)) = true := decide_eq_true c5
      clear c5
      replace H := Option.bind_eq_some_iff.mp H
      obtain ⟨t809, A60, H⟩ := H
      replace H : (if t809 = true then (spec_l3sets.l0 k1 l0 a1 ((rd_T84 l0 x10_1).f0) l0 (l0.length : Int) (wrap64 (x10_1 + 1))) else (some false)) = some r := H
      have A6 := Aside0.mk A60
      clear A60
      by_cases c7 : t809 = true
      ·subst c7
       have H1 : (spec_l3sets.l0 k1 l0 a1 ((rd_T84 l0 x10_1).f0) l0 (l0.length : Int) (wrap64 (x10_1 + 1))) = some r := by rw [if_pos rfl] at H; exact H
       clear H; have H := H1; clear H1
       have H' := Aside0.mk H
       clear H
       have p807 : 0 ≤ (x10_1 : Int) := of_decide_eq_true (by assumption)
       have q807 : x10_1 < (l0.length : Int) := of_decide_eq_true (by assumption)
       obtain ⟨ad807, e807, hx807_0, hx807_1⟩ := at_T84 HR0.out x10_1 p807 q807
       cases e807
       replace hx807_0 := (HB.out.cell (World.block_lt_of_cell? w _ hx807_0)).trans hx807_0
       replace hx807_1 := (HB.out.cell (World.block_lt_of_cell? w _ hx807_1)).trans hx807_1
       replace p807 := eq_true p807
       replace q807 := eq_true q807
       go_wp2_with (first | ((with_reducible refine gate_dst (N := 7) rfl ?_); refine boxA #[.int .i64 0, .int .i64 0] 84 ?_; intro gb808 hg w8 hbox hb; have BK808 := Aside0.mk (hbox); have GW808 := nge HB hg; have GE808 := nge HB hg; replace HB := bst HB hb; clear hb hbox hg; have hcz9_0 := b0 BK808; have hcz9_1 := b1 BK808; have hfz9_0 := blk_frozen BK808.out 0; have hfz9_1 := blk_frozen BK808.out 1) | ((with_reducible refine gate_callee (f := 77) rfl ?_); refine goesLA (some 18) rfl Try.func77 #[.int .i64 ((rd_T84 l0 x10_1).f0), .int .i64 x5_1, .int .i64 a1] ?_; (with_reducible refine (spec_l1in.calls ((rd_T84 l0 x10_1).f0) x5_1 a1 true _ A6.out).mono ?_); rintro e w' ⟨rfl, ⟨nd, rfl⟩⟩; refine ⟨_, rfl, ?_⟩))
       go_roundg k1
       case measure => have := HK1.out; omega
       case rel => exact ⟨((rd_T84 l0 x10_1).f0), (wrap64 (x10_1 + 1)), (by first | rfl | (simp; done) | (simp [*]; done)), (by first | rfl | (simp; done) | (simp [*]; done)), H', ⟨by have := HK1.out; omega⟩, ⟨(qs HB)⟩⟩
      replace c7 := Bool.eq_false_iff.mpr c7
      subst c7
      have H1 : (some false) = some r := by rw [if_neg (show ¬ (false = true) by decide)] at H; exact H
      clear H; have H := H1; clear H1
      obtain rfl := Option.some.inj H
      have p807 : 0 ≤ (x10_1 : Int) := of_decide_eq_true (by assumption)
      have q807 : x10_1 < (l0.length : Int) := of_decide_eq_true (by assumption)
      obtain ⟨ad807, e807, hx807_0, hx807_1⟩ := at_T84 HR0.out x10_1 p807 q807
      cases e807
      replace hx807_0 := (HB.out.cell (World.block_lt_of_cell? w _ hx807_0)).trans hx807_0
      replace hx807_1 := (HB.out.cell (World.block_lt_of_cell? w _ hx807_1)).trans hx807_1
      replace p807 := eq_true p807
      replace q807 := eq_true q807
      go_wp2_with (first | ((with_reducible refine gate_dst (N := 7) rfl ?_); refine boxA #[.int .i64 0, .int .i64 0] 84 ?_; intro gb808 hg w10 hbox hb; have BK808 := Aside0.mk (hbox); have GW808 := nge HB hg; have GE808 := nge HB hg; replace HB := bst HB hb; clear hb hbox hg; have hcz11_0 := b0 BK808; have hcz11_1 := b1 BK808; have hfz11_0 := blk_frozen BK808.out 0; have hfz11_1 := blk_frozen BK808.out 1) | ((with_reducible refine gate_callee (f := 77) rfl ?_); refine goesLA (some 18) rfl Try.func77 #[.int .i64 ((rd_T84 l0 x10_1).f0), .int .i64 x5_1, .int .i64 a1] ?_; (with_reducible refine (spec_l1in.calls ((rd_T84 l0 x10_1).f0) x5_1 a1 false _ A6.out).mono ?_); rintro e w' ⟨rfl, ⟨nd, rfl⟩⟩; refine ⟨_, rfl, ?_⟩))
      go_ret
      exact ⟨by first | rfl | (simp [*, errW_none, errW_some] <;> rfl), (qs HB)⟩
     rw [if_neg c5] at H
     exact absurd H (by simp)
    rw [if_neg c4] at H
    exact absurd H (by simp)
   rw [if_neg c3] at H
   have c3b0 : decide (x10_1 < (l0.length : Int)) = false := decide_eq_false c3
   clear c3
   obtain rfl := Option.some.inj H
   go_wp2
   go_ret
   exact ⟨by first | rfl | (simp [*, errW_none, errW_some] <;> rfl), (qs HB)⟩
mutual
def spec_l3fates.l0 : Nat → List (List Int) → List (List Int) → Int → Int → Option (Bool)
 | 0, _, _, _, _ => none
 | k + 1, x0, x7, x8, x9 => if x9 < x8 then (if 0 ≤ x9 then (if x9 < (x7.length : Int) then (spec_l3fates.l1 k x0 (rd_L5 x7 x9) x7 x8 x9 (rd_L5 x7 x9) ((rd_L5 x7 x9).length : Int) 0) else (none)) else (none)) else (some (decide ((x0.length : Int) ≤ 5000)))
def spec_l3fates.l1 : Nat → List (List Int) → List Int → List (List Int) → Int → Int → List Int → Int → Int → Option (Bool)
 | 0, _, _, _, _, _, _, _, _ => none
 | k + 1, x0, x4, x7, x8, x9, x13, x14, x15 => if x15 < x14 then (if 0 ≤ x15 then (if x15 < (x13.length : Int) then ((spec_l1in.f (rd x13 x15) 1 1000).bind fun t812 => (if t812 = true then (spec_l3fates.l1 k x0 x4 x7 x8 x9 x13 x14 (wrap64 (x15 + 1))) else (some false))) else (none)) else (none)) else (if (x4.length : Int) > 10 then (some false) else (spec_l3fates.l0 k x0 x7 x8 (wrap64 (x9 + 1))))
end
def spec_l3fates.f (k : Nat) (l0 : List (List Int)) : Option (Bool) := spec_l3fates.l0 k l0 l0 (l0.length : Int) 0
set_option maxHeartbeats 8000000 in
set_option maxRecDepth 100000 in
theorem spec_l3fates.calls (k : Nat) (A0 : Option Addr) (c0 : Nat) (l0 : List (List Int)) (r : Bool) (w : World) (hr0 : Kd.C (Kd.slice 3 (Kd.int .i64)) w A0 l0.length l0) (hc0 : l0.length ≤ c0) (h : spec_l3fates.f k l0 = some r) :
  Calls Try.prog 79 #[.slice A0 l0.length c0] w fun e w' => e = .returned (.bool r) ∧ Drawn0 w w' := by
 have HR0 := Aside0.mk hr0
 have HC0 := Aside0.mk hc0
 clear hr0 hc0
 have H : (spec_l3fates.l0 k l0 l0 (l0.length : Int) 0) = some r := h
 clear h
 have H' := Aside0.mk H
 clear H
 go_enter Try.func79, Try.ntmps79
 go_wp2
 go_loopg [9] k (fun kq v9 w' => ∃ (x9_1 : Int), v9 = .int .i64 x9_1 ∧ Aside0 (spec_l3fates.l0 kq l0 l0 (l0.length : Int) x9_1 = some r) ∧ Aside0 (kq ≤ k) ∧ Drawn0 w w')
 case atStart => exact ⟨(0), (by first | rfl | (simp; done) | (simp [*]; done)), H', ⟨Nat.le_refl _⟩, by repeat (first | exact Drawn0.refl _ | apply Drawn0.step)⟩
 case round =>
  clear H'
  obtain ⟨x9_1, rfl, HA, HK1, ⟨m1, rfl⟩⟩ := hrel
  cases gk with
  | zero => exact absurd HA.out (by simp [spec_l3fates.l0])
  | succ k1 =>
   have H := HA.out
   clear HA
   simp only [spec_l3fates.l0] at H
   by_cases c2 : x9_1 < (l0.length : Int)
   ·rw [if_pos c2] at H
    have c2b0 : decide (x9_1 < (l0.length : Int)) = true := decide_eq_true c2
    clear c2
    by_cases c3 : 0 ≤ x9_1
    ·rw [if_pos c3] at H
     have c3b0 : decide (0 ≤ x9_1) = true := decide_eq_true c3
     clear c3
     by_cases c4 : x9_1 < (l0.length : Int)
     ·rw [if_pos c4] at H
      have c4b0 : decide (x9_1 < (l0.length : Int)) = true := decide_eq_true c4
      clear c4
      have H' := Aside0.mk H
      clear H
      have p810 : 0 ≤ (x9_1 : Int) := of_decide_eq_true (by assumption)
      have q810 : x9_1 < (l0.length : Int) := of_decide_eq_true (by assumption)
      obtain ⟨ad810, A810_0, c810_0, e810, hx810_0, hl810_0, hi810_0⟩ := at_L5 HR0.out x9_1 p810 q810
      cases e810
      have HR810_0 := Aside0.mk hi810_0
      have HC810_0 := Aside0.mk hl810_0
      clear hi810_0 hl810_0
      replace p810 := eq_true p810
      replace q810 := eq_true q810
      go_wp2
      go_loopg [15] k1 (fun kq v15 w' => ∃ (x15_2 : Int), v15 = .int .i64 x15_2 ∧ Aside0 (spec_l3fates.l1 kq l0 (rd_L5 l0 x9_1) l0 (l0.length : Int) x9_1 (rd_L5 l0 x9_1) ((rd_L5 l0 x9_1).length : Int) x15_2 = some r) ∧ Aside0 (kq ≤ k1) ∧ Drawn0 w w')
      case atStart => exact ⟨(0), (by first | rfl | (simp; done) | (simp [*]; done)), H', ⟨Nat.le_refl _⟩, by repeat (first | exact Drawn0.refl _ | apply Drawn0.step)⟩
      case round =>
       clear H'
       try clear c2; try clear c2b0; try clear p2; try clear c3; try clear c3b0; try clear c4; try clear c4b0; try clear hx810_0; try clear p810; try clear q810
       obtain ⟨x15_2, rfl, HA, HK2, ⟨m2, rfl⟩⟩ := hrel
       cases gk with
       | zero => exact absurd HA.out (by simp [spec_l3fates.l1])
       | succ k2 =>
        have H := HA.out
        clear HA
        simp only [spec_l3fates.l1] at H
        by_cases c5 : x15_2 < ((rd_L5 l0 x9_1).length : Int)
        ·rw [if_pos c5] at H
         have c5b0 : decide (x15_2 < ((rd_L5 l0 x9_1).length : Int)) = true := decide_eq_true c5
         clear c5
         by_cases c6 : 0 ≤ x15_2
         ·rw [if_pos c6] at H
          have c6b0 : decide (0 ≤ x15_2) = true := decide_eq_true c6
          clear c6
          by_cases c7 : x15_2 < ((rd_L5 l0 x9_1).length : Int)
          ·rw [if_pos c7] at H
           have c7b0 : decide (x15_2 < ((rd_L5 l0 x9_1).length : Int)) = true := decide_eq_true c7
           clear c7
           replace H := Option.bind_eq_some_iff.mp H
           obtain ⟨t812, A80, H⟩ := H
           replace H : (if t812 = true then (spec_l3fates.l1 k2 l0 (rd_L5 l0 x9_1) l0 (l0.length : Int) x9_1 (rd_L5 l0 x9_1) ((rd_L5 l0 x9_1).length : Int) (wrap64 (x15_2 + 1))) else (some false)) = some r := H
           have A8 := Aside0.mk A80
           clear A80
           by_cases c9 : t812 = true
           ·subst c9
            have H1 : (spec_l3fates.l1 k2 l0 (rd_L5 l0 x9_1) l0 (l0.length : Int) x9_1 (rd_L5 l0 x9_1) ((rd_L5 l0 x9_1).length : Int) (wrap64 (x15_2 + 1))) = some r := by rw [if_pos rfl] at H; exact H
            clear H; have H := H1; clear H1
            have H' := Aside0.mk H
            clear H
            have p811 : 0 ≤ (x15_2 : Int) := of_decide_eq_true (by assumption)
            have q811 : x15_2 < ((rd_L5 l0 x9_1).length : Int) := of_decide_eq_true (by assumption)
            obtain ⟨ad811, e811, hx811_0⟩ := Kd.at_int HR810_0.out x15_2 p811 q811
            cases e811
            replace p811 := eq_true p811
            replace q811 := eq_true q811
            go_wp2_with (first | ((with_reducible refine gate_callee (f := 77) rfl ?_); refine goesLA (some 20) rfl Try.func77 #[.int .i64 (rd (rd_L5 l0 x9_1) x15_2), .int .i64 1, .int .i64 1000] ?_; (with_reducible refine (spec_l1in.calls (rd (rd_L5 l0 x9_1) x15_2) 1 1000 true _ A8.out).mono ?_); rintro e w' ⟨rfl, ⟨nd, rfl⟩⟩; refine ⟨_, rfl, ?_⟩))
            go_roundg k2
            case measure => have := HK1.out; have := HK2.out; omega
            case rel => exact ⟨(wrap64 (x15_2 + 1)), (by first | rfl | (simp; done) | (simp [*]; done)), H', ⟨by have := HK1.out; have := HK2.out; omega⟩, by repeat (first | exact Drawn0.refl _ | apply Drawn0.step)⟩
           replace c9 := Bool.eq_false_iff.mpr c9
           subst c9
           have H1 : (some false) = some r := by rw [if_neg (show ¬ (false = true) by decide)] at H; exact H
           clear H; have H := H1; clear H1
           obtain rfl := Option.some.inj H
           have p811 : 0 ≤ (x15_2 : Int) := of_decide_eq_true (by assumption)
           have q811 : x15_2 < ((rd_L5 l0 x9_1).length : Int) := of_decide_eq_true (by assumption)
           obtain ⟨ad811, e811, hx811_0⟩ := Kd.at_int HR810_0.out x15_2 p811 q811
           cases e811
           replace p811 := eq_true p811
           replace q811 := eq_true q811
           go_wp2_with (first | ((with_reducible refine gate_callee (f := 77) rfl ?_); refine goesLA (some 20) rfl Try.func77 #[.int .i64 (rd (rd_L5 l0 x9_1) x15_2), .int .i64 1, .int .i64 1000] ?_; (with_reducible refine (spec_l1in.calls (rd (rd_L5 l0 x9_1) x15_2) 1 1000 false _ A8.out).mono ?_); rintro e w' ⟨rfl, ⟨nd, rfl⟩⟩; refine ⟨_, rfl, ?_⟩))
           go_ret
           exact ⟨by first | rfl | (simp; done) | (simp [*]; done), by repeat (first | exact Drawn0.refl _ | apply Drawn0.step)⟩
          rw [if_neg c7] at H
          exact absurd H (by simp)
         rw [if_neg c6] at H
         exact absurd H (by simp)
        rw [if_neg c5] at H
        have c5b0 : decide (x15_2 < ((rd_L5 l0 x9_1).length : Int)) = false := decide_eq_false c5
        clear c5
        by_cases c10 : ((rd_L5 l0 x9_1).length : Int) > 10
        ·rw [if_pos c10] at H
         have c10b0 : decide (10 < ((rd_L5 l0 x9_1).length : Int)) = true := decide_eq_true c10
         have c10b1 : decide (10 < (rd_L5 l0 x9_1).length) = true := decide_eq_true (by omega)
         clear c10
         obtain rfl := Option.some.inj H
         go_wp2
         go_ret
         exact ⟨by first | rfl | (simp; done) | (simp [*]; done), by repeat (first | exact Drawn0.refl _ | apply Drawn0.step)⟩
        rw [if_neg c10] at H
        have c10b0 : decide (10 < ((rd_L5 l0 x9_1).length : Int)) = false := decide_eq_false c10
        have c10b1 : decide (10 < (rd_L5 l0 x9_1).length) = false := decide_eq_false (by omega)
        clear c10
        have H' := Aside0.mk H
        clear H
        go_wp2
        go_roundg k2
        case measure => have := HK1.out; have := HK2.out; omega
        case rel => exact ⟨(wrap64 (x9_1 + 1)), (by first | rfl | (simp; done) | (simp [*]; done)), H', ⟨by have := HK1.out; have := HK2.out; omega⟩, by repeat (first | exact Drawn0.refl _ | apply Drawn0.step)⟩
     rw [if_neg c4] at H
     exact absurd H (by simp)
    rw [if_neg c3] at H
    exact absurd H (by simp)
   rw [if_neg c2] at H
   have c2b0 : decide (x9_1 < (l0.length : Int)) = false := decide_eq_false c2
   clear c2
   obtain rfl := Option.some.inj H
   go_wp2
   go_ret
   exact ⟨by first | rfl | (simp; done) | (simp [*]; done), by repeat (first | exact Drawn0.refl _ | apply Drawn0.step)⟩
def spec_l3due.l0 : Nat → Int → List (S60) → List (S146) → Int → Int → Option ((List (S60)))
 | 0, _, _, _, _, _ => none
 | k + 1, x1, x5, x8, x9, x10 => if x10 < x9 then (if 0 ≤ x10 then (if x10 < (x8.length : Int) then (if ((rd_T146 x8 x10).f1) = x1 then (if x5.length < 4398046511104 then (spec_l3due.l0 k x1 (x5 ++ [(⟨(rd_T146 x8 x10).f0.f0, (rd_T146 x8 x10).f0.f1, (rd_T146 x8 x10).f0.f2, (rd_T146 x8 x10).f0.f3⟩ : S60)]) x8 x9 (wrap64 (x10 + 1))) else (none)) else (spec_l3due.l0 k x1 x5 x8 x9 (wrap64 (x10 + 1)))) else (none)) else (none)) else (some x5)
def spec_l3due.f (k : Nat) (l0 : List (S146)) (a1 : Int) : Option ((List (S60))) := spec_l3due.l0 k a1 ([] : List (S60)) l0 (l0.length : Int) 0
set_option maxHeartbeats 8000000 in
set_option maxRecDepth 100000 in
theorem spec_l3due.calls (k : Nat) (A0 : Option Addr) (c0 : Nat) (l0 : List (S146)) (a1 : Int) (r : List (S60)) (w : World) (hr0 : Kd.C k146 w A0 l0.length l0) (hc0 : l0.length ≤ c0) (h : spec_l3due.f k l0 a1 = some r) :
  Calls Try.prog 80 #[.slice A0 l0.length c0, .int .i64 a1] w fun e w' => ∃ v0_ : Value, e = .returned (v0_) ∧ Kd.R k60 60 w' w.heap.size (fun _ => True) v0_ r ∧ Below w.heap.size w w' := by
 have hu146 := Try.underlying146
 have hu60 := Try.underlying60
 have HR0 := Aside0.mk hr0
 have HC0 := Aside0.mk hc0
 clear hr0 hc0
 have HB := Aside0.mk (Below.refl w.heap.size w)
 have H : (spec_l3due.l0 k a1 ([] : List (S60)) l0 (l0.length : Int) 0) = some r := h
 clear h
 have H' := Aside0.mk H
 clear H
 go_enter Try.func80, Try.ntmps80
 go_wp2
 go_loopg [5, 10] k (fun kq v5 v10 w' => ∃ (x5_1 : List (S60)) (x10_1 : Int), v10 = .int .i64 x10_1 ∧ Aside0 (spec_l3due.l0 kq a1 x5_1 l0 (l0.length : Int) x10_1 = some r) ∧ Aside0 (kq ≤ k) ∧ Aside0 (Kd.R k60 60 w' w.heap.size (fun _ => True) v5 x5_1) ∧ Aside0 (Below w.heap.size w w'))
 case atStart => exact ⟨(([] : List (S60))), (0), (by first | rfl | (simp; done) | (simp [*]; done)), H', ⟨Nat.le_refl _⟩, ⟨by first | exact Kd.R_nil _ _ _ _ _ | exact Kd.N_nil _ _ _ _ _ | exact Kd.V_nil _ _ _ _ _ | exact Kd.Q_nil _ _ _ _ _ | exact Kd.S_nil _ _ _ _ _⟩, ⟨(qs HB)⟩⟩
 case round =>
  clear H'
  try clear p2
  obtain ⟨x5_1, x10_1, rfl, HA, HK1, HO_5, HB⟩ := hrel
  cases gk with
  | zero => exact absurd HA.out (by simp [spec_l3due.l0])
  | succ k1 =>
   have H := HA.out
   clear HA
   simp only [spec_l3due.l0] at H
   by_cases c3 : x10_1 < (l0.length : Int)
   ·rw [if_pos c3] at H
    have c3b0 : decide (x10_1 < (l0.length : Int)) = true := decide_eq_true c3
    clear c3
    by_cases c4 : 0 ≤ x10_1
    ·rw [if_pos c4] at H
     have c4b0 : decide (0 ≤ x10_1) = true := decide_eq_true c4
     clear c4
     by_cases c5 : x10_1 < (l0.length : Int)
     ·rw [if_pos c5] at H
      have c5b0 : decide (x10_1 < (l0.length : Int)) = true := decide_eq_true c5
      clear c5
      by_cases c6 : ((rd_T146 l0 x10_1).f1) = a1
      ·rw [if_pos c6] at H
       have c6b0 : (((rd_T146 l0 x10_1).f1) == a1) = true := beq_iff_eq.mpr c6
       have c6b1 : (((rd_T146 l0 x10_1).f1) != a1) = false := bne_eq_false_iff_eq.mpr c6
       clear c6
       by_cases c7 : x5_1.length < 4398046511104
       ·rw [if_pos c7] at H
        have LMc7 := Aside0.mk c7
        clear c7
        obtain ⟨y815, hy815⟩ : ∃ y_ : List (S60), y_ = (x5_1 ++ [(⟨(rd_T146 l0 x10_1).f0.f0, (rd_T146 l0 x10_1).f0.f1, (rd_T146 l0 x10_1).f0.f2, (rd_T146 l0 x10_1).f0.f3⟩ : S60)]) := ⟨_, rfl⟩
        replace H : (spec_l3due.l0 k1 a1 y815 l0 (l0.length : Int) (wrap64 (x10_1 + 1))) = some r := by first | (rw [hy815]; with_reducible exact H) | (have H2_ := (Option.bind_some _ _).symm.trans H; rw [hy815]; with_reducible exact H2_) | (have H2_ := (Option.bind_some _ _).symm.trans H; with_reducible exact H2_) | with_reducible exact H | (rw [hy815]; exact H) | exact H
        have Ny815 := Aside0.mk hy815
        clear hy815
        have H' := Aside0.mk H
        clear H
        have p813 : 0 ≤ (x10_1 : Int) := of_decide_eq_true (by assumption)
        have q813 : x10_1 < (l0.length : Int) := of_decide_eq_true (by assumption)
        obtain ⟨ad813, e813, hx813_0, hx813_1, hx813_2, hx813_3, hx813_4⟩ := at_T146 HR0.out x10_1 p813 q813
        cases e813
        replace hx813_0 := (HB.out.cell (World.block_lt_of_cell? w _ hx813_0)).trans hx813_0
        replace hx813_1 := (HB.out.cell (World.block_lt_of_cell? w _ hx813_1)).trans hx813_1
        replace hx813_2 := (HB.out.cell (World.block_lt_of_cell? w _ hx813_2)).trans hx813_2
        replace hx813_3 := (HB.out.cell (World.block_lt_of_cell? w _ hx813_3)).trans hx813_3
        replace hx813_4 := (HB.out.cell (World.block_lt_of_cell? w _ hx813_4)).trans hx813_4
        replace p813 := eq_true p813
        replace q813 := eq_true q813
        go_wp2_with (first | ((with_reducible refine gate_dst (N := 7) rfl ?_); refine boxA #[.int .i64 0, .int .i64 0, .int .i64 0, .int .i64 0, .int .i64 0] 146 ?_; intro gb814 hg w8 hbox hb; replace HO_5 := rbl HO_5 hb; have BK814 := Aside0.mk (hbox); have GW814 := nge HB hg; have GE814 := nge HB hg; replace HB := bst HB hb; clear hb hbox hg; have hcz9_0 := b0 BK814; have hcz9_1 := b1 BK814; have hcz9_2 := b2 BK814; have hcz9_3 := b3 BK814; have hcz9_4 := b4 BK814; have hfz9_0 := blk_frozen BK814.out 0; have hfz9_1 := blk_frozen BK814.out 1; have hfz9_2 := blk_frozen BK814.out 2; have hfz9_3 := blk_frozen BK814.out 3; have hfz9_4 := blk_frozen BK814.out 4) | ((with_reducible refine gate_builtin (b := .append) (xs := #[.tmp 18, .tmp 21]) rfl ?_); at_builtin; refine Kd.R_append k60 (w0 := w) w.heap.size rfl (.tmp 18) (.tmp 21) 30 60 (.agg #[(.int .i64 0), (.int .i64 0), (.int .i64 0), (.int .i64 0)]) 32 rfl Try.underlying30 info60 rfl (by decide) (by omega) u5 x5_1 (⟨(rd_T146 l0 x10_1).f0.f0, (rd_T146 l0 x10_1).f0.f1, (rd_T146 l0 x10_1).f0.f2, (rd_T146 l0 x10_1).f0.f3⟩ : S60) [.int .i64 ((rd_T146 l0 x10_1).f0.f0), .int .i64 ((rd_T146 l0 x10_1).f0.f1), .int .i64 ((rd_T146 l0 x10_1).f0.f2), .int .i64 ((rd_T146 l0 x10_1).f0.f3)] (fun _ => True) (fun _ => False) rfl (by first | (go_simp; done) | (go_simp; rfl)) ?aP (fun _ hk => hk.elim) ?aF ?aO ?aB ?aS ?aL ?_; (case aP => exact k60_mkM _ _ _ (⟨(rd_T146 l0 x10_1).f0.f0, (rd_T146 l0 x10_1).f0.f1, (rd_T146 l0 x10_1).f0.f2, (rd_T146 l0 x10_1).f0.f3⟩ : S60)); (case aB => exact (qs HB)); (case aF => exact (fun _ _ => trivial)); (case aO => exact (by (with_reducible repeat (first | apply Kd.R_alloc | apply Kd.R_drewN | apply Kd.R_drew)); exact Kd.R_mono (Kd.R_far (p := ⟨gb814, 4, none⟩) (Kd.R_far (p := ⟨gb814, 3, none⟩) (Kd.R_far (p := ⟨gb814, 2, none⟩) (Kd.R_far (p := ⟨gb814, 1, none⟩) (Kd.R_far (p := ⟨gb814, 0, none⟩) (Kd.R_types HO_5.out BK814.out (by decide)) (fun _ hk => hk.2) (.int .i64 ((rd_T146 l0 x10_1).f0.f0))) (fun _ hk => hk.2) (.int .i64 ((rd_T146 l0 x10_1).f0.f1))) (fun _ hk => hk.2) (.int .i64 ((rd_T146 l0 x10_1).f0.f2))) (fun _ hk => hk.2) (.int .i64 ((rd_T146 l0 x10_1).f0.f3))) (fun _ hk => hk.2) (.int .i64 ((rd_T146 l0 x10_1).f1))) (fun _ hk => trivial))); (case aS => exact (below_size (qs HB))); (case aL => have := LMc7.out; omega); intro v816 w10 ho hb hg hat; rw [← Ny815.out] at ho; replace BK814 := Aside0.mk (blk_grown (g := gb814) (o := .cells #[.int .i64 ((rd_T146 l0 x10_1).f0.f0), .int .i64 ((rd_T146 l0 x10_1).f0.f1), .int .i64 ((rd_T146 l0 x10_1).f0.f2), .int .i64 ((rd_T146 l0 x10_1).f0.f3), .int .i64 ((rd_T146 l0 x10_1).f1)] 146 (0, 0)) (by refine qz ?_; refine blk_put (cs := #[.int .i64 ((rd_T146 l0 x10_1).f0.f0), .int .i64 ((rd_T146 l0 x10_1).f0.f1), .int .i64 ((rd_T146 l0 x10_1).f0.f2), .int .i64 ((rd_T146 l0 x10_1).f0.f3), .int .i64 0]) ?_ 4 _ rfl; refine qz ?_; refine blk_put (cs := #[.int .i64 ((rd_T146 l0 x10_1).f0.f0), .int .i64 ((rd_T146 l0 x10_1).f0.f1), .int .i64 ((rd_T146 l0 x10_1).f0.f2), .int .i64 0, .int .i64 0]) ?_ 3 _ rfl; refine qz ?_; refine blk_put (cs := #[.int .i64 ((rd_T146 l0 x10_1).f0.f0), .int .i64 ((rd_T146 l0 x10_1).f0.f1), .int .i64 0, .int .i64 0, .int .i64 0]) ?_ 2 _ rfl; refine qz ?_; refine blk_put (cs := #[.int .i64 ((rd_T146 l0 x10_1).f0.f0), .int .i64 0, .int .i64 0, .int .i64 0, .int .i64 0]) ?_ 1 _ rfl; refine qz ?_; refine blk_put (cs := #[.int .i64 0, .int .i64 0, .int .i64 0, .int .i64 0, .int .i64 0]) ?_ 0 _ rfl; refine qz ?_; exact BK814.out) hg (Kd.R_ne HO_5.out BK814.out (by decide))); replace HB := Aside0.mk (hb); have HO817 := Aside0.mk (ho); clear HO_5; clear ho hb hg hat))
        go_roundg k1
        case measure => have := HK1.out; omega
        case rel => exact ⟨(y815), (wrap64 (x10_1 + 1)), (by first | rfl | (simp; done) | (simp [*]; done)), H', ⟨by have := HK1.out; omega⟩, ⟨by (with_reducible repeat (first | apply Kd.R_alloc | apply Kd.R_drewN | apply Kd.R_drew)); exact HO817.out⟩, ⟨(qs HB)⟩⟩
       rw [if_neg c7] at H
       exact absurd H (by simp)
      rw [if_neg c6] at H
      have c6b0 : (((rd_T146 l0 x10_1).f1) == a1) = false := beq_eq_false_iff_ne.mpr c6
      have c6b1 : (((rd_T146 l0 x10_1).f1) != a1) = true := bne_iff_ne.mpr c6
      have H' := Aside0.mk H
      clear H
      have p813 : 0 ≤ (x10_1 : Int) := of_decide_eq_true (by assumption)
      have q813 : x10_1 < (l0.length : Int) := of_decide_eq_true (by assumption)
      obtain ⟨ad813, e813, hx813_0, hx813_1, hx813_2, hx813_3, hx813_4⟩ := at_T146 HR0.out x10_1 p813 q813
      cases e813
      replace hx813_0 := (HB.out.cell (World.block_lt_of_cell? w _ hx813_0)).trans hx813_0
      replace hx813_1 := (HB.out.cell (World.block_lt_of_cell? w _ hx813_1)).trans hx813_1
      replace hx813_2 := (HB.out.cell (World.block_lt_of_cell? w _ hx813_2)).trans hx813_2
      replace hx813_3 := (HB.out.cell (World.block_lt_of_cell? w _ hx813_3)).trans hx813_3
      replace hx813_4 := (HB.out.cell (World.block_lt_of_cell? w _ hx813_4)).trans hx813_4
      replace p813 := eq_true p813
      replace q813 := eq_true q813
      go_wp2_with (first | ((with_reducible refine gate_dst (N := 7) rfl ?_); refine boxA #[.int .i64 0, .int .i64 0, .int .i64 0, .int .i64 0, .int .i64 0] 146 ?_; intro gb814 hg w11 hbox hb; replace HO_5 := rbl HO_5 hb; have BK814 := Aside0.mk (hbox); have GW814 := nge HB hg; have GE814 := nge HB hg; replace HB := bst HB hb; clear hb hbox hg; have hcz12_0 := b0 BK814; have hcz12_1 := b1 BK814; have hcz12_2 := b2 BK814; have hcz12_3 := b3 BK814; have hcz12_4 := b4 BK814; have hfz12_0 := blk_frozen BK814.out 0; have hfz12_1 := blk_frozen BK814.out 1; have hfz12_2 := blk_frozen BK814.out 2; have hfz12_3 := blk_frozen BK814.out 3; have hfz12_4 := blk_frozen BK814.out 4))
      go_roundg k1
      case measure => have := HK1.out; omega
      case rel => exact ⟨(x5_1), (wrap64 (x10_1 + 1)), (by first | rfl | (simp; done) | (simp [*]; done)), H', ⟨by have := HK1.out; omega⟩, ⟨by (with_reducible repeat (first | apply Kd.R_alloc | apply Kd.R_drewN | apply Kd.R_drew)); exact Kd.R_mono (Kd.R_far (p := ⟨gb814, 4, none⟩) (Kd.R_far (p := ⟨gb814, 3, none⟩) (Kd.R_far (p := ⟨gb814, 2, none⟩) (Kd.R_far (p := ⟨gb814, 1, none⟩) (Kd.R_far (p := ⟨gb814, 0, none⟩) (Kd.R_types HO_5.out BK814.out (by decide)) (fun _ hk => hk.2) (.int .i64 ((rd_T146 l0 x10_1).f0.f0))) (fun _ hk => hk.2) (.int .i64 ((rd_T146 l0 x10_1).f0.f1))) (fun _ hk => hk.2) (.int .i64 ((rd_T146 l0 x10_1).f0.f2))) (fun _ hk => hk.2) (.int .i64 ((rd_T146 l0 x10_1).f0.f3))) (fun _ hk => hk.2) (.int .i64 ((rd_T146 l0 x10_1).f1))) (fun _ hk => trivial)⟩, ⟨(qs HB)⟩⟩
     rw [if_neg c5] at H
     exact absurd H (by simp)
    rw [if_neg c4] at H
    exact absurd H (by simp)
   rw [if_neg c3] at H
   have c3b0 : decide (x10_1 < (l0.length : Int)) = false := decide_eq_false c3
   clear c3
   obtain rfl := Option.some.inj H
   go_wp2
   go_ret
   exact ⟨_, by first | rfl | (simp [*, errW_none, errW_some] <;> rfl), by (with_reducible repeat (first | apply Kd.R_alloc | apply Kd.R_drewN | apply Kd.R_drew)); exact HO_5.out, (qs HB)⟩
def laws_toSet.f (a0_0 : Int) (a0_1 : Int) : Option (Int × Int) := some (a0_0, a0_1)
set_option maxHeartbeats 8000000 in
set_option maxRecDepth 100000 in
theorem laws_toSet.calls (a0_0 : Int) (a0_1 : Int) (r1 : Int) (r2 : Int) (w : World) (h : laws_toSet.f a0_0 a0_1 = some (r1, r2)) :
  Calls Try.prog 82 #[.agg #[.int .i64 a0_0, .int .i64 a0_1]] w fun e w' => e = .returned (.agg #[.int .i64 r1, .int .i64 r2]) ∧ Below w.heap.size w w' := by
 have hu127 := Try.underlying127
 have hu84 := Try.underlying84
 have HB := Aside0.mk (Below.refl w.heap.size w)
 have H : (some (a0_0, a0_1)) = some (r1, r2) := h
 clear h
 simp only [Option.some.injEq, Prod.mk.injEq] at H
 obtain ⟨rfl, rfl⟩ := H
 go_enter Try.func82, Try.ntmps82
 go_wp2_with (first | ((with_reducible refine gate_dst (N := 1) rfl ?_); refine boxA #[.int .i64 a0_0, .int .i64 a0_1] 127 ?_; intro gb823 hg w2 hbox hb; have BK823 := Aside0.mk (hbox); have GW823 := nge HB hg; have GE823 := nge HB hg; replace HB := bst HB hb; clear hb hbox hg) | ((with_reducible refine gate_dst (N := 2) rfl ?_); refine boxA #[.int .i64 0, .int .i64 0] 84 ?_; intro gb824 hg w3 hbox hb; have BK824 := Aside0.mk (hbox); have GW824 := nge HB hg; have GE824 := nge HB hg; replace HB := bst HB hb; have NB823_824 := nlt BK823 hg; have NB824_823 := ngt BK823 hg; replace BK823 := bkb BK823 hb; clear hb hbox hg) | ((with_reducible refine gate_dst (N := 3) rfl ?_); refine boxA #[.int .i64 0, .int .i64 0] 84 ?_; intro gb825 hg w4 hbox hb; have BK825 := Aside0.mk (hbox); have GW825 := nge HB hg; have GE825 := nge HB hg; replace HB := bst HB hb; have NB823_825 := nlt BK823 hg; have NB825_823 := ngt BK823 hg; replace BK823 := bkb BK823 hb; have NB824_825 := nlt BK824 hg; have NB825_824 := ngt BK824 hg; replace BK824 := bkb BK824 hb; clear hb hbox hg; have hnb5 := NB823_824.out; have hnc5 := NB824_823.out; have hnb6 := NB823_825.out; have hnc6 := NB825_823.out; have hcz7_0 := b0 BK823; have hcz7_1 := b1 BK823; have hfz7_0 := blk_frozen BK823.out 0; have hfz7_1 := blk_frozen BK823.out 1; have hnb8 := NB825_824.out; have hnc8 := NB824_825.out; have hcz9_0 := b0 BK825; have hcz9_1 := b1 BK825; have hfz9_0 := blk_frozen BK825.out 0; have hfz9_1 := blk_frozen BK825.out 1; have hcz10_0 := b0 BK824; have hcz10_1 := b1 BK824; have hfz10_0 := blk_frozen BK824.out 0; have hfz10_1 := blk_frozen BK824.out 1))
 refine bodyPost_ret (results_cell_row rfl _ _ gb824 84 #[.int .i64 a0_0, .int .i64 a0_1] (0, 0) _ rfl (by refine qz ?_; refine blk_put (cs := #[.int .i64 a0_0, .int .i64 0]) ?_ 1 _ rfl; refine qz ?_; refine blk_put (cs := #[.int .i64 0, .int .i64 0]) ?_ 0 _ rfl; exact qB BK824) Try.underlying84 rfl (by kernel_rfl)) rfl ?_
 exact ⟨by first | rfl | (simp [*, errW_none, errW_some] <;> rfl), (qs HB)⟩
def laws_toSetS.l0 : Nat → List (S127) → List (S84) → Int → Option ((List (S84)))
 | 0, _, _, _ => none
 | k + 1, x0, x3, x4 => if x4 < (x0.length : Int) then (if 0 ≤ x4 then ((laws_toSet.f ((rd_T127 x0 x4).f0) ((rd_T127 x0 x4).f1)).bind fun bt830 => (if x4 < (x3.length : Int) then (laws_toSetS.l0 k x0 (x3.set (x4 : Int).toNat (⟨bt830.1, bt830.2⟩ : S84)) (wrap64 (x4 + 1))) else (none))) else (none)) else (some x3)
def laws_toSetS.f (k : Nat) (l0 : List (S127)) : Option ((List (S84))) := if 0 ≤ (l0.length : Int) then (if ((l0.length : Int) : Int).toNat ≤ 17592186044416 then (laws_toSetS.l0 k l0 (List.replicate ((l0.length : Int) : Int).toNat z84) 0) else (none)) else (none)
set_option maxHeartbeats 8000000 in
set_option maxRecDepth 100000 in
theorem laws_toSetS.calls (k : Nat) (A0 : Option Addr) (c0 : Nat) (l0 : List (S127)) (r : List (S84)) (w : World) (hr0 : Kd.C k127 w A0 l0.length l0) (hc0 : l0.length ≤ c0) (h : laws_toSetS.f k l0 = some r) :
  Calls Try.prog 36 #[.slice A0 l0.length c0] w fun e w' => ∃ v0_ : Value, e = .returned (v0_) ∧ Kd.R k84 84 w' w.heap.size (fun _ => True) v0_ r ∧ Below w.heap.size w w' := by
 have hu127 := Try.underlying127
 have hu84 := Try.underlying84
 have HR0 := Aside0.mk hr0
 have HC0 := Aside0.mk hc0
 clear hr0 hc0
 have HB := Aside0.mk (Below.refl w.heap.size w)
 have H : (if 0 ≤ (l0.length : Int) then (if ((l0.length : Int) : Int).toNat ≤ 17592186044416 then (laws_toSetS.l0 k l0 (List.replicate ((l0.length : Int) : Int).toNat z84) 0) else (none)) else (none)) = some r := h
 clear h
 by_cases c2 : 0 ≤ (l0.length : Int)
 ·rw [if_pos c2] at H
  have c2b0 := eq_true c2
  have c2b1 : decide (0 ≤ (l0.length : Int)) = true := decide_eq_true c2
  clear c2
  by_cases c3 : ((l0.length : Int) : Int).toNat ≤ 17592186044416
  ·rw [if_pos c3] at H
   have c3b0 := eq_true c3
   have c3b1 : decide (((l0.length : Int) : Int).toNat ≤ 17592186044416) = true := decide_eq_true c3
   clear c3
   obtain ⟨y826, hy826⟩ : ∃ y_ : List (S84), y_ = (List.replicate ((l0.length : Int) : Int).toNat z84) := ⟨_, rfl⟩
   replace H : (laws_toSetS.l0 k l0 y826 0) = some r := by first | (rw [hy826]; with_reducible exact H) | (have H2_ := (Option.bind_some _ _).symm.trans H; rw [hy826]; with_reducible exact H2_) | (have H2_ := (Option.bind_some _ _).symm.trans H; with_reducible exact H2_) | with_reducible exact H | (rw [hy826]; exact H) | exact H
   have Ny826 := Aside0.mk hy826
   clear hy826
   have H' := Aside0.mk H
   clear H
   go_enter Try.func36, Try.ntmps36
   go_wp2_with (first | ((with_reducible refine gate_dst (N := 7) rfl ?_); refine Kd.R_make k84 _ 84 rfl (N := 7) rfl 70 _ _ rfl (l0.length : Int) rfl rfl Try.underlying70 (.agg #[(.int .i64 0), (.int .i64 0)]) 16 info84 rfl (by decide) (by omega) z84 (ok := fun _ => True) (okp := fun _ => True) (k84_mkM _ _ _ z84 ) (fun _ hk => hk) trivial (of_decide_eq_true (by assumption)) (Nat.le_trans (Nat.mul_le_mul_right _ (of_decide_eq_true (by assumption) : (l0.length : Int).toNat ≤ 17592186044416)) (by omega)) (Below.refl _ _) (Nat.le_refl _) ?_; intro v827 w4 ho5 hb hg_ hnew_; clear hg_ hnew_; (first | rw [← Ny826.out] at ho5 | (simp only [Int.reduceToNat] at ho5; rw [← Ny826.out] at ho5)); have HO828 := Aside0.mk (Kd.R_lower ho5 (below_size (qs HB))); replace HB := bst HB hb; clear hb ho5))
   go_loopg [4] k (fun kq v4 w' => ∃ (x3_1 : List (S84)) (x4_1 : Int), v4 = .int .i64 x4_1 ∧ Aside0 (laws_toSetS.l0 kq l0 x3_1 x4_1 = some r) ∧ Aside0 (kq ≤ k) ∧ Aside0 (Kd.R k84 84 w' w.heap.size (fun _ => True) v827 x3_1) ∧ Aside0 (Below w.heap.size w w'))
   case atStart => exact ⟨(y826), (0), (by first | rfl | (simp; done) | (simp [*]; done)), H', ⟨Nat.le_refl _⟩, ⟨by (with_reducible repeat (first | apply Kd.R_alloc | apply Kd.R_drewN | apply Kd.R_drew)); exact HO828.out⟩, ⟨(qs HB)⟩⟩
   case round =>
    clear H'
    try clear c2; try clear c2b0; try clear c2b1; try clear p2; try clear c3; try clear c3b0; try clear c3b1
    obtain ⟨x3_1, x4_1, rfl, HA, HK1, HO_3, HB⟩ := hrel
    cases gk with
    | zero => exact absurd HA.out (by simp [laws_toSetS.l0])
    | succ k1 =>
     have H := HA.out
     clear HA
     simp only [laws_toSetS.l0] at H
     by_cases c6 : x4_1 < (l0.length : Int)
     ·rw [if_pos c6] at H
      have c6b0 : decide (x4_1 < (l0.length : Int)) = true := decide_eq_true c6
      clear c6
      by_cases c7 : 0 ≤ x4_1
      ·rw [if_pos c7] at H
       have c7b0 : decide (0 ≤ x4_1) = true := decide_eq_true c7
       clear c7
       replace H := Option.bind_eq_some_iff.mp H
       obtain ⟨⟨t830, t831⟩, A80, H⟩ := H
       replace H : (if x4_1 < (x3_1.length : Int) then (laws_toSetS.l0 k1 l0 (x3_1.set (x4_1 : Int).toNat (⟨t830, t831⟩ : S84)) (wrap64 (x4_1 + 1))) else (none)) = some r := H
       have A8 := Aside0.mk A80
       clear A80
       by_cases c9 : x4_1 < (x3_1.length : Int)
       ·rw [if_pos c9] at H
        have c9b0 : decide (x4_1 < (x3_1.length : Int)) = true := decide_eq_true c9
        clear c9
        obtain ⟨y832, hy832⟩ : ∃ y_ : List (S84), y_ = (x3_1.set (x4_1 : Int).toNat (⟨t830, t831⟩ : S84)) := ⟨_, rfl⟩
        replace H : (laws_toSetS.l0 k1 l0 y832 (wrap64 (x4_1 + 1))) = some r := by first | (rw [hy832]; with_reducible exact H) | (have H2_ := (Option.bind_some _ _).symm.trans H; rw [hy832]; with_reducible exact H2_) | (have H2_ := (Option.bind_some _ _).symm.trans H; with_reducible exact H2_) | with_reducible exact H | (rw [hy832]; exact H) | exact H
        have Ny832 := Aside0.mk hy832
        clear hy832
        have H' := Aside0.mk H
        clear H
        have p829 : 0 ≤ (x4_1 : Int) := of_decide_eq_true (by assumption)
        have q829 : x4_1 < (l0.length : Int) := of_decide_eq_true (by assumption)
        obtain ⟨ad829, e829, hx829_0, hx829_1⟩ := at_T127 HR0.out x4_1 p829 q829
        cases e829
        replace hx829_0 := (HB.out.cell (World.block_lt_of_cell? w _ hx829_0)).trans hx829_0
        replace hx829_1 := (HB.out.cell (World.block_lt_of_cell? w _ hx829_1)).trans hx829_1
        replace p829 := eq_true p829
        replace q829 := eq_true q829
        go_wp2_with (first | ((with_reducible refine gate_callee (f := 82) rfl ?_); refine goesLA (some 20) rfl Try.func82 #[.agg #[.int .i64 ((rd_T127 l0 x4_1).f0), .int .i64 ((rd_T127 l0 x4_1).f1)]] ?_; (with_reducible refine (laws_toSet.calls ((rd_T127 l0 x4_1).f0) ((rd_T127 l0 x4_1).f1) t830 t831 _ A8.out).mono ?_); rintro e w11 ⟨rfl, hb⟩; refine ⟨_, rfl, ?_⟩; replace HO_3 := rbl HO_3 hb; replace HB := bst HB hb; clear hb; have p10 : 0 ≤ (x4_1 : Int) := of_decide_eq_true (by assumption); have q10 : (x4_1 : Int) < ((x3_1.length : Int) : Int) := of_decide_eq_true (by assumption); obtain ⟨go10, co10, eo10, gb10, gl10, cl10, HG10⟩ := Kd.R_form HO_3.out (by omega); (first | cases eo10 | (injection eo10 with ea_ en_ ec_; (first | subst ea_ | (injection ea_ with ea_; subst ea_)); subst ec_; clear en_)); have GB10 := Aside0.mk gb10; have GG10 := Aside0.mk HG10; clear gb10 gl10 HG10; obtain ⟨ce10, hcl10, hM10, hcc10, hfr10⟩ := Kd.R_elem HO_3.out z84 (x4_1 : Int) p10 q10; obtain rfl := k84_openM hM10; have hx10_0 : w11.cell? ⟨go10, (x4_1 : Int).toNat * 2, none⟩ = some (.int .i64 ((rd_T84 x3_1 x4_1).f0)) := hcc10 0 _ rfl; have hx10_1 : w11.cell? ⟨go10, (x4_1 : Int).toNat * 2 + 1, none⟩ = some (.int .i64 ((rd_T84 x3_1 x4_1).f1)) := hcc10 1 _ rfl; have hf10_0 : w11.frozen? ⟨go10, (x4_1 : Int).toNat * 2, none⟩ = false := hfr10 0; have hf10_1 : w11.frozen? ⟨go10, (x4_1 : Int).toNat * 2 + 1, none⟩ = false := hfr10 1; clear hcl10 hcc10 hfr10 hM10; replace p10 := eq_true p10; replace q10 := eq_true q10; have HX12 := Aside0.mk (show Kd.R k84 84 w11 w.heap.size (fun _ => True) (.slice (some ⟨go10, 0, none⟩) x3_1.length co10) x3_1 from (qr HO_3)); obtain ⟨ce12, hcl12, hM12, hcc12, hfr12⟩ := Kd.R_elem HX12.out z84 (x4_1 : Int) (of_decide_eq_true (by assumption)) (by have h_ : (x4_1 : Int) < ((x3_1.length : Int) : Int) := of_decide_eq_true (by assumption); first | exact h_ | (have e_ := (Kd.R_reads' HO_3.out).1; omega) | simpa using h_); obtain rfl := k84_openM hM12; have HP12 := Kd.R_seg HX12.out (x4_1 : Int) (of_decide_eq_true (by assumption)) (by have h_ : (x4_1 : Int) < ((x3_1.length : Int) : Int) := of_decide_eq_true (by assumption); first | exact h_ | (have e_ := (Kd.R_reads' HO_3.out).1; omega) | simpa using h_) (seg := [.int .i64 t830, .int .i64 t831]) (j := 0) hcl12 hcc12 (show 2 ≤ 2 from by decide) (x' := (⟨t830, t831⟩ : S84)) (k84_mkM _ _ _ (⟨t830, t831⟩ : S84) ) (fun _ hk => hk); have hx12_0 := hcc12 0 _ rfl; (try simp only [show (k84).sz = 2 from rfl, Nat.mul_one, Nat.add_zero] at hx12_0); have hf12_0 := hfr12 0; (try simp only [show (k84).sz = 2 from rfl, Nat.mul_one, Nat.add_zero] at hf12_0); have hx12_1 := hcc12 1 _ rfl; (try simp only [show (k84).sz = 2 from rfl, Nat.mul_one, Nat.add_zero] at hx12_1); have hf12_1 := hfr12 1; (try simp only [show (k84).sz = 2 from rfl, Nat.mul_one, Nat.add_zero] at hf12_1); clear hcl12 hcc12 hfr12 hM12) | ((with_reducible refine gate_store (t := 84) (p := 21) rfl ?_); refine store_event (t := 84) (p := 21) (v := ?vo_w13) (w1 := ((w11.setCell ⟨go10, (x4_1 : Int).toNat * 2, none⟩ (.int .i64 t830)).setCell ⟨go10, (x4_1 : Int).toNat * 2 + 1, none⟩ (.int .i64 t831))) ?hg ?ho ?hn ?hr ?_; (case ho => rfl); (case hg => rfl); (case hn => rfl); (case hr => first | (go_simp; done) | (go_simp; rfl)); intro w13 hw; have hg : w11.grownBy w13 (some go10) := (by rw [hw]; exact HP12.2); have hp_ : Kd.R k84 84 w13 w.heap.size (fun _ => True) (.slice (some ⟨go10, 0, none⟩) x3_1.length co10) y832 := (by rw [hw, Ny832.out]; exact HP12.1); clear HP12; replace HO_3 := Aside0.mk (hp_); replace HB := Aside0.mk ((by rw [hw]; exact below_set (below_set (HB.out) GB10.out) GB10.out : Below w.heap.size w w13)); clear hg hw hp_))
        go_roundg k1
        case measure => have := HK1.out; omega
        case rel => exact ⟨(y832), (wrap64 (x4_1 + 1)), (by first | rfl | (simp; done) | (simp [*]; done)), H', ⟨by have := HK1.out; omega⟩, ⟨by (with_reducible repeat (first | apply Kd.R_alloc | apply Kd.R_drewN | apply Kd.R_drew)); exact HO_3.out⟩, ⟨(qs HB)⟩⟩
       rw [if_neg c9] at H
       exact absurd H (by simp)
      rw [if_neg c7] at H
      exact absurd H (by simp)
     rw [if_neg c6] at H
     have c6b0 : decide (x4_1 < (l0.length : Int)) = false := decide_eq_false c6
     clear c6
     obtain rfl := Option.some.inj H
     go_wp2
     go_ret
     exact ⟨_, by first | rfl | (simp [*, errW_none, errW_some] <;> rfl), by (with_reducible repeat (first | apply Kd.R_alloc | apply Kd.R_drewN | apply Kd.R_drew)); exact HO_3.out, (qs HB)⟩
  rw [if_neg c3] at H
  exact absurd H (by simp)
 rw [if_neg c2] at H
 exact absurd H (by simp)
end Go.Proofs.Ytndffnacbfdnoaa.PAll
