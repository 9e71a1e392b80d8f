-- Lines of PAllx6 that this claim uses.
import Derived.Test.YtndffnacbfdnoaaRUSqd
import Derived.Test.YtndffnacbfdnoaaRUSq
import Derived.Test.YtndffnacbfdnoaaRUPAllx0
import Derived.Test.YtndffnacbfdnoaaRUPAllx5
namespace Go.Proofs.Ytndffnacbfdnoaa.PAll
open Go.RowKit Go.Proofs.YtndffnacbfdnoaaW.PrintWords Go.Proofs.YtndffnacbfdnoaaW.PrintLast Go.Proofs.YtndffnacbfdnoaaW.PrintMore
attribute [local go_sem] max2_int min2_int max_two min_two max_three min_three max_four min_four
set_option linter.unusedVariables false
set_option linter.unusedSimpArgs false
mutual
def spec_BoxTick.j0 : Nat → Int → List Int → List (S60) → Bool → Int → Int → Int → Int → Int → Int → Int → Int → Option (Bool × Int × Int × Int × Int × Int × (List (S60)))
 | 0, _, _, _, _, _, _, _, _, _, _, _, _ => none
 | k + 1, x1, x3, x4, x44, x118000, x118001, x118002, x119000, x119001, x119002, x119003, x119004 => if x44 = true then (some (false, 0, 0, 0, 0, 0, ([] : List (S60)))) else (spec_BoxTick.l0 k x1 x3 x4 (x4.length : Int) 0 x118000 x118001 x118002 true x119000 x119001 x119002 x119003 x119004)
def spec_BoxTick.l0 : Nat → Int → List Int → List (S60) → Int → Int → Int → Int → Int → Bool → Int → Int → Int → Int → Int → Option (Bool × Int × Int × Int × Int × Int × (List (S60)))
 | 0, _, _, _, _, _, _, _, _, _, _, _, _, _, _ => none
 | k + 1, x1, x3, x49, x50, x51, x118000, x118001, x118002, x124000, x124001, x124002, x124003, x124004, x124005 => if x51 < x50 then (if 0 ≤ x51 then (if x51 < (x49.length : Int) then (if ((rd_T60 x49 x51).f0) = 2 then (spec_BoxTick.j2 k x1 x3 x49 x50 x51 (decide (((rd_T60 x49 x51).f1) > x124001)) x118000 x118001 x118002 x124000 x124001 x124002 x124003 x124004 x124005 ((rd_T60 x49 x51).f0) ((rd_T60 x49 x51).f1) ((rd_T60 x49 x51).f2) ((rd_T60 x49 x51).f3)) else (spec_BoxTick.j2 k x1 x3 x49 x50 x51 true x118000 x118001 x118002 x124000 x124001 x124002 x124003 x124004 x124005 ((rd_T60 x49 x51).f0) ((rd_T60 x49 x51).f1) ((rd_T60 x49 x51).f2) ((rd_T60 x49 x51).f3))) else (none)) else (none)) else (spec_BoxTick.l1 k x1 x3 x3 (x3.length : Int) 0 x118000 x118001 x118002 x124000 x124001 x124002 x124003 x124004 x124005)
def spec_BoxTick.j2 : Nat → Int → List Int → List (S60) → Int → Int → Bool → Int → Int → Int → Bool → Int → Int → Int → Int → Int → Int → Int → Int → Int → Option (Bool × Int × Int × Int × Int × Int × (List (S60)))
 | 0, _, _, _, _, _, _, _, _, _, _, _, _, _, _, _, _, _, _, _ => none
 | k + 1, x1, x3, x49, x50, x51, x66, x118000, x118001, x118002, x124000, x124001, x124002, x124003, x124004, x124005, x126000, x126001, x126002, x126003 => if x66 = true then (spec_BoxTick.l0 k x1 x3 x49 x50 (wrap64 (x51 + 1)) x118000 x118001 x118002 x124000 x124001 x124002 x124003 x124004 x124005) else (if x126001 > x124003 then (if x126003 > x124005 then (spec_BoxTick.l0 k x1 x3 x49 x50 (wrap64 (x51 + 1)) x118000 x118001 x118002 x124000 x124001 x124002 x126001 x124004 x126003) else (spec_BoxTick.l0 k x1 x3 x49 x50 (wrap64 (x51 + 1)) x118000 x118001 x118002 x124000 x124001 x124002 x126001 x124004 x124005)) else (if x126003 > x124005 then (spec_BoxTick.l0 k x1 x3 x49 x50 (wrap64 (x51 + 1)) x118000 x118001 x118002 x124000 x124001 x124002 x124003 x124004 x126003) else (spec_BoxTick.l0 k x1 x3 x49 x50 (wrap64 (x51 + 1)) x118000 x118001 x118002 x124000 x124001 x124002 x124003 x124004 x124005)))
def spec_BoxTick.l1 : Nat → Int → List Int → List Int → Int → Int → Int → Int → Int → Bool → Int → Int → Int → Int → Int → Option (Bool × Int × Int × Int × Int × Int × (List (S60)))
 | 0, _, _, _, _, _, _, _, _, _, _, _, _, _, _ => none
 | k + 1, x1, x3, x92, x93, x94, x118000, x118001, x118002, x124000, x124001, x124002, x124003, x124004, x124005 => if x94 < x93 then (if 0 ≤ x94 then (if x94 < (x92.length : Int) then (spec_BoxTick.l1 k x1 x3 x92 x93 (wrap64 (x94 + 1)) x118000 x118001 x118002 x124000 (wrap64 (x124001 + 1)) (rd x92 x94) x124003 x124004 x124005) else (none)) else (none)) else (if (x3.length : Int) > 0 then (some (x124000, x124001, x124002, x124003, x1, x124005, (([(⟨1, x124001, x124002, x1⟩ : S60)] : List (S60))))) else (if (wrap64 (x1 - x124004)) ≥ x118000 then (some (x124000, x124001, x124002, x124003, x1, x124005, (([(⟨1, x124001, x124002, x1⟩ : S60)] : List (S60))))) else (some (x124000, x124001, x124002, x124003, x124004, x124005, ([] : List (S60))))))
end
def spec_BoxTick.f (k : Nat) (a0_0 : Int) (a0_1 : Int) (a0_2 : Int) (a1 : Int) (a2_0 : Int) (a2_1 : Int) (a2_2 : Int) (a2_3 : Int) (a2_4 : Int) (l3 : List Int) (l4 : List (S60)) : Option (Bool × Int × Int × Int × Int × Int × (List (S60))) := (spec_RulesOk.f a0_0 a0_1 a0_2).bind fun t120 => (if t120 = true then ((spec_BoxOk.f a1 a2_0 a2_1 a2_2 a2_3 a2_4).bind fun t121 => (if t121 = true then ((spec_l2packets.f k a1 l4).bind fun t122 => (if t122 = true then (if (l3.length : Int) > 100 then (spec_BoxTick.j0 k a1 l3 l4 true a0_0 a0_1 a0_2 a2_0 a2_1 a2_2 a2_3 a2_4) else (spec_BoxTick.j0 k a1 l3 l4 (decide ((wrap64 (a2_0 + (l3.length : Int))) > 1000000000)) a0_0 a0_1 a0_2 a2_0 a2_1 a2_2 a2_3 a2_4)) else (spec_BoxTick.j0 k a1 l3 l4 true a0_0 a0_1 a0_2 a2_0 a2_1 a2_2 a2_3 a2_4))) else (spec_BoxTick.j0 k a1 l3 l4 true a0_0 a0_1 a0_2 a2_0 a2_1 a2_2 a2_3 a2_4))) else (spec_BoxTick.j0 k a1 l3 l4 true a0_0 a0_1 a0_2 a2_0 a2_1 a2_2 a2_3 a2_4))
def spec_BoxTick.T8 : Bool × List (List Nat × List Nat) := (true, [([], []), ([0], [0]), ([1], [1]), ([2], [2]), ([3], [3]), ([4, 3], [3, 4]), ([3], [3]), ([6, 3], [3, 6]), ([7, 3], [3, 7]), ([8, 3], [3, 8]), ([5, 9, 3], [3, 5, 9]), ([3, 10], [3, 10])])
def spec_BoxTick.B8 : List Nat := [0, 1, 3, 7, 15, 31, 15, 79, 207, 463, 1023, 2047]
theorem spec_BoxTick.tab8 : rtab .any (opsOf Try.f12 8) = spec_BoxTick.T8 := by kernel_rfl
theorem spec_BoxTick.bits8 : waitsOk spec_BoxTick.T8.2 spec_BoxTick.B8 = true := by kernel_rfl
def spec_BoxTick.T20 : Bool × List (List Nat × List Nat) := (true, [([], []), ([0], [0]), ([1], [1]), ([2], [2]), ([3], [3]), ([3], [3]), ([5, 3], [3, 5]), ([6, 3], [3, 6]), ([7, 3], [3, 7]), ([4, 8, 3], [3, 4, 8]), ([3], [3]), ([10, 3], [3, 10]), ([9, 11, 3], [3, 9, 11]), ([3, 12], [3, 12])])
def spec_BoxTick.B20 : List Nat := [0, 1, 3, 7, 15, 15, 47, 111, 239, 511, 15, 1039, 4095, 8191]
theorem spec_BoxTick.tab20 : rtab .any (opsOf Try.f12 20) = spec_BoxTick.T20 := by kernel_rfl
theorem spec_BoxTick.bits20 : waitsOk spec_BoxTick.T20.2 spec_BoxTick.B20 = true := by kernel_rfl
def spec_BoxTick.T22 : Bool × List (List Nat × List Nat) := (true, [([], []), ([0], [0]), ([1], [1]), ([2], [2]), ([], []), ([4], [4]), ([5], [5]), ([6], [6]), ([], []), ([3, 7, 8], [3, 7, 8]), ([9], [9]), ([0, 1, 2, 3, 4, 5, 6, 7, 8, 9, 10], []), ([11, 10, 0, 1, 2, 3, 4, 5, 6, 7, 8, 9, 10], [10, 11])])
def spec_BoxTick.B22 : List Nat := [0, 1, 3, 7, 0, 16, 48, 112, 0, 511, 1023, 2047, 4095]
theorem spec_BoxTick.tab22 : rtab .any (opsOf Try.f12 22) = spec_BoxTick.T22 := by kernel_rfl
theorem spec_BoxTick.bits22 : waitsOk spec_BoxTick.T22.2 spec_BoxTick.B22 = true := by kernel_rfl
set_option maxHeartbeats 8000000 in
set_option maxRecDepth 100000 in
theorem spec_BoxTick.calls (k : Nat) (a0_0 : Int) (a0_1 : Int) (a0_2 : Int) (a1 : Int) (a2_0 : Int) (a2_1 : Int) (a2_2 : Int) (a2_3 : Int) (a2_4 : Int) (A3 : Option Addr) (c3 : Nat) (l3 : List Int) (A4 : Option Addr) (c4 : Nat) (l4 : List (S60)) (r1 : Bool) (r2 : Int) (r3 : Int) (r4 : Int) (r5 : Int) (r6 : Int) (r7 : List (S60)) (w : World) (hr3 : Kd.C (Kd.int .i64) w A3 l3.length l3) (hc3 : l3.length ≤ c3) (hr4 : Kd.C k60 w A4 l4.length l4) (hc4 : l4.length ≤ c4) (h : spec_BoxTick.f k a0_0 a0_1 a0_2 a1 a2_0 a2_1 a2_2 a2_3 a2_4 l3 l4 = some (r1, r2, r3, r4, r5, r6, r7)) :
  Calls Try.prog 12 #[.agg #[.int .i64 a0_0, .int .i64 a0_1, .int .i64 a0_2], .int .i64 a1, .agg #[.int .i64 a2_0, .int .i64 a2_1, .int .i64 a2_2, .int .i64 a2_3, .int .i64 a2_4], .slice A3 l3.length c3, .slice A4 l4.length c4] w fun e w' => ∃ v6_ : Value, e = .returned (.agg #[.bool r1, .int .i64 r2, .int .i64 r3, .int .i64 r4, .int .i64 r5, .int .i64 r6, v6_]) ∧ Kd.R k60 60 w' w.heap.size (fun _ => True) v6_ r7 ∧ Below w.heap.size w w' := by
 have hu34 := Try.underlying34
 have hu29 := Try.underlying29
 have hu32 := Try.underlying32
 have hu60 := Try.underlying60
 have HR3 := Aside0.mk hr3
 have HC3 := Aside0.mk hc3
 clear hr3 hc3
 have HR4 := Aside0.mk hr4
 have HC4 := Aside0.mk hc4
 clear hr4 hc4
 have HB := Aside0.mk (Below.refl w.heap.size w)
 have H : ((spec_RulesOk.f a0_0 a0_1 a0_2).bind fun t120 => (if t120 = true then ((spec_BoxOk.f a1 a2_0 a2_1 a2_2 a2_3 a2_4).bind fun t121 => (if t121 = true then ((spec_l2packets.f k a1 l4).bind fun t122 => (if t122 = true then (if (l3.length : Int) > 100 then (spec_BoxTick.j0 k a1 l3 l4 true a0_0 a0_1 a0_2 a2_0 a2_1 a2_2 a2_3 a2_4) else (spec_BoxTick.j0 k a1 l3 l4 (decide ((wrap64 (a2_0 + (l3.length : Int))) > 1000000000)) a0_0 a0_1 a0_2 a2_0 a2_1 a2_2 a2_3 a2_4)) else (spec_BoxTick.j0 k a1 l3 l4 true a0_0 a0_1 a0_2 a2_0 a2_1 a2_2 a2_3 a2_4))) else (spec_BoxTick.j0 k a1 l3 l4 true a0_0 a0_1 a0_2 a2_0 a2_1 a2_2 a2_3 a2_4))) else (spec_BoxTick.j0 k a1 l3 l4 true a0_0 a0_1 a0_2 a2_0 a2_1 a2_2 a2_3 a2_4))) = some (r1, r2, r3, r4, r5, r6, r7) := h
 clear h
 have HC6 := Aside0.mk H
 clear H
 go_enter Try.func12, Try.ntmps12
 go_upto_region 1 with (first | ((with_reducible refine gate_dst (N := 5) rfl ?_); (try (refine gate_guard (by rfl) ?_; dsimp only)); refine boxA #[.int .i64 a0_0, .int .i64 a0_1, .int .i64 a0_2] 34 ?_; intro gb117 hg w7 hbox hb; have BK117 := Aside0.mk (hbox); have GW117 := nge HB hg; have GE117 := nge HB hg; replace HB := bst HB hb; clear hb hbox hg) | ((with_reducible refine gate_dst (N := 7) rfl ?_); (try (refine gate_guard (by rfl) ?_; dsimp only)); refine boxA #[.int .i64 a2_0, .int .i64 a2_1, .int .i64 a2_2, .int .i64 a2_3, .int .i64 a2_4] 29 ?_; intro gb118 hg w8 hbox hb; have BK118 := Aside0.mk (hbox); have GW118 := nge HB hg; have GE118 := nge HB hg; replace HB := bst HB hb; have NB117_118 := nlt BK117 hg; have NB118_117 := ngt BK117 hg; replace BK117 := bkb BK117 hb; clear hb hbox hg) | ((with_reducible refine gate_dst (N := 10) rfl ?_); (try (refine gate_guard (by rfl) ?_; dsimp only)); refine boxA #[.bool false, .int .i64 0, .int .i64 0, .int .i64 0, .int .i64 0, .int .i64 0, .slice none 0 0] 32 ?_; intro gb119 hg w9 hbox hb; have BK119 := Aside0.mk (hbox); have GW119 := nge HB hg; have GE119 := nge HB hg; replace HB := bst HB hb; have NB117_119 := nlt BK117 hg; have NB119_117 := ngt BK117 hg; replace BK117 := bkb BK117 hb; have NB118_119 := nlt BK118 hg; have NB119_118 := ngt BK118 hg; replace BK118 := bkb BK118 hb; clear hb hbox hg))
 (try simp only [Act.put, List.setIfInBounds_toArray, List.set_cons_zero, List.set_cons_succ])
 go_cut [44] (fun v44 wc => ∃ (kq : Nat) (x44_5 : Bool), v44 = .bool x44_5 ∧ Aside0 (spec_BoxTick.j0 kq a1 l3 l4 x44_5 a0_0 a0_1 a0_2 a2_0 a2_1 a2_2 a2_3 a2_4 = some (r1, r2, r3, r4, r5, r6, r7)) ∧ Aside0 (kq ≤ k) ∧ Aside0 (wc.heap[gb117]? = some (.cells #[.int .i64 a0_0, .int .i64 a0_1, .int .i64 a0_2] 34 (0, 0))) ∧ Aside0 (wc.heap[gb118]? = some (.cells #[.int .i64 a2_0, .int .i64 a2_1, .int .i64 a2_2, .int .i64 a2_3, .int .i64 a2_4] 29 (0, 0))) ∧ Aside0 (wc.heap[gb119]? = some (.cells #[.bool false, .int .i64 0, .int .i64 0, .int .i64 0, .int .i64 0, .int .i64 0, (.slice none 0 0)] 32 (0, 0))) ∧ Aside0 (Below w.heap.size w wc))
 case first =>
  have H := HC6.out
  clear HC6
  replace H := Option.bind_eq_some_iff.mp H
  obtain ⟨t120, A100, H⟩ := H
  replace H : (if t120 = true then ((spec_BoxOk.f a1 a2_0 a2_1 a2_2 a2_3 a2_4).bind fun t121 => (if t121 = true then ((spec_l2packets.f k a1 l4).bind fun t122 => (if t122 = true then (if (l3.length : Int) > 100 then (spec_BoxTick.j0 k a1 l3 l4 true a0_0 a0_1 a0_2 a2_0 a2_1 a2_2 a2_3 a2_4) else (spec_BoxTick.j0 k a1 l3 l4 (decide ((wrap64 (a2_0 + (l3.length : Int))) > 1000000000)) a0_0 a0_1 a0_2 a2_0 a2_1 a2_2 a2_3 a2_4)) else (spec_BoxTick.j0 k a1 l3 l4 true a0_0 a0_1 a0_2 a2_0 a2_1 a2_2 a2_3 a2_4))) else (spec_BoxTick.j0 k a1 l3 l4 true a0_0 a0_1 a0_2 a2_0 a2_1 a2_2 a2_3 a2_4))) else (spec_BoxTick.j0 k a1 l3 l4 true a0_0 a0_1 a0_2 a2_0 a2_1 a2_2 a2_3 a2_4)) = some (r1, r2, r3, r4, r5, r6, r7) := H
  have A10 := Aside0.mk A100
  clear A100
  by_cases c11 : t120 = true
  ·subst c11
   have H1 : ((spec_BoxOk.f a1 a2_0 a2_1 a2_2 a2_3 a2_4).bind fun t121 => (if t121 = true then ((spec_l2packets.f k a1 l4).bind fun t122 => (if t122 = true then (if (l3.length : Int) > 100 then (spec_BoxTick.j0 k a1 l3 l4 true a0_0 a0_1 a0_2 a2_0 a2_1 a2_2 a2_3 a2_4) else (spec_BoxTick.j0 k a1 l3 l4 (decide ((wrap64 (a2_0 + (l3.length : Int))) > 1000000000)) a0_0 a0_1 a0_2 a2_0 a2_1 a2_2 a2_3 a2_4)) else (spec_BoxTick.j0 k a1 l3 l4 true a0_0 a0_1 a0_2 a2_0 a2_1 a2_2 a2_3 a2_4))) else (spec_BoxTick.j0 k a1 l3 l4 true a0_0 a0_1 a0_2 a2_0 a2_1 a2_2 a2_3 a2_4))) = some (r1, r2, r3, r4, r5, r6, r7) := by rw [if_pos rfl] at H; exact H
   clear H; have H := H1; clear H1
   replace H := Option.bind_eq_some_iff.mp H
   obtain ⟨t121, A120, H⟩ := H
   replace H : (if t121 = true then ((spec_l2packets.f k a1 l4).bind fun t122 => (if t122 = true then (if (l3.length : Int) > 100 then (spec_BoxTick.j0 k a1 l3 l4 true a0_0 a0_1 a0_2 a2_0 a2_1 a2_2 a2_3 a2_4) else (spec_BoxTick.j0 k a1 l3 l4 (decide ((wrap64 (a2_0 + (l3.length : Int))) > 1000000000)) a0_0 a0_1 a0_2 a2_0 a2_1 a2_2 a2_3 a2_4)) else (spec_BoxTick.j0 k a1 l3 l4 true a0_0 a0_1 a0_2 a2_0 a2_1 a2_2 a2_3 a2_4))) else (spec_BoxTick.j0 k a1 l3 l4 true a0_0 a0_1 a0_2 a2_0 a2_1 a2_2 a2_3 a2_4)) = some (r1, r2, r3, r4, r5, r6, r7) := H
   have A12 := Aside0.mk A120
   clear A120
   by_cases c13 : t121 = true
   ·subst c13
    have H1 : ((spec_l2packets.f k a1 l4).bind fun t122 => (if t122 = true then (if (l3.length : Int) > 100 then (spec_BoxTick.j0 k a1 l3 l4 true a0_0 a0_1 a0_2 a2_0 a2_1 a2_2 a2_3 a2_4) else (spec_BoxTick.j0 k a1 l3 l4 (decide ((wrap64 (a2_0 + (l3.length : Int))) > 1000000000)) a0_0 a0_1 a0_2 a2_0 a2_1 a2_2 a2_3 a2_4)) else (spec_BoxTick.j0 k a1 l3 l4 true a0_0 a0_1 a0_2 a2_0 a2_1 a2_2 a2_3 a2_4))) = some (r1, r2, r3, r4, r5, r6, r7) := by rw [if_pos rfl] at H; exact H
    clear H; have H := H1; clear H1
    replace H := Option.bind_eq_some_iff.mp H
    obtain ⟨t122, A140, H⟩ := H
    replace H : (if t122 = true then (if (l3.length : Int) > 100 then (spec_BoxTick.j0 k a1 l3 l4 true a0_0 a0_1 a0_2 a2_0 a2_1 a2_2 a2_3 a2_4) else (spec_BoxTick.j0 k a1 l3 l4 (decide ((wrap64 (a2_0 + (l3.length : Int))) > 1000000000)) a0_0 a0_1 a0_2 a2_0 a2_1 a2_2 a2_3 a2_4)) else (spec_BoxTick.j0 k a1 l3 l4 true a0_0 a0_1 a0_2 a2_0 a2_1 a2_2 a2_3 a2_4)) = some (r1, r2, r3, r4, r5, r6, r7) := H
    have A14 := Aside0.mk A140
    clear A140
    by_cases c15 : t122 = true
    ·subst c15
     have H1 : (if (l3.length : Int) > 100 then (spec_BoxTick.j0 k a1 l3 l4 true a0_0 a0_1 a0_2 a2_0 a2_1 a2_2 a2_3 a2_4) else (spec_BoxTick.j0 k a1 l3 l4 (decide ((wrap64 (a2_0 + (l3.length : Int))) > 1000000000)) a0_0 a0_1 a0_2 a2_0 a2_1 a2_2 a2_3 a2_4)) = some (r1, r2, r3, r4, r5, r6, r7) := by rw [if_pos rfl] at H; exact H
     clear H; have H := H1; clear H1
     by_cases c16 : (l3.length : Int) > 100
     ·rw [if_pos c16] at H
      have c16b0 : decide (100 < (l3.length : Int)) = true := decide_eq_true c16
      have c16b1 : decide (100 < l3.length) = true := decide_eq_true (by omega)
      clear c16
      (first | rw [c16b0] | (simp only [i64_w, i32_w]; rw [c16b0]) | skip)
      have H' := Aside0.mk H
      clear H
      have hnb17 := NB117_118.out
      have hnc17 := NB118_117.out
      have hnb18 := NB117_119.out
      have hnc18 := NB119_117.out
      have hcz19_0 := b0 BK117
      have hcz19_1 := b1 BK117
      have hcz19_2 := b2 BK117
      have hfz19_0 := blk_frozen BK117.out 0
      have hfz19_1 := blk_frozen BK117.out 1
      have hfz19_2 := blk_frozen BK117.out 2
      go_wp2_with (first | ((with_reducible refine gate_callee (f := 54) rfl ?_); refine goesLA (some 18) rfl Try.func54 #[.agg #[.int .i64 a0_0, .int .i64 a0_1, .int .i64 a0_2]] ?_; (with_reducible refine (spec_RulesOk.calls a0_0 a0_1 a0_2 true _ A10.out).mono ?_); rintro e w20 ⟨rfl, hb⟩; refine ⟨_, rfl, ?_⟩; replace BK117 := bkb BK117 hb; replace BK118 := bkb BK118 hb; replace BK119 := bkb BK119 hb; replace HB := bst HB hb; clear hb; have hnb21 := NB118_119.out; have hnc21 := NB119_118.out; have hcz22_0 := b0 BK118; have hcz22_1 := b1 BK118; have hcz22_2 := b2 BK118; have hcz22_3 := b3 BK118; have hcz22_4 := b4 BK118; have hfz22_0 := blk_frozen BK118.out 0; have hfz22_1 := blk_frozen BK118.out 1; have hfz22_2 := blk_frozen BK118.out 2; have hfz22_3 := blk_frozen BK118.out 3; have hfz22_4 := blk_frozen BK118.out 4) | (go_at_call 55; (with_reducible refine (spec_BoxOk.calls a1 a2_0 a2_1 a2_2 a2_3 a2_4 true _ A12.out).mono ?_); rintro e w23 ⟨rfl, hb⟩; replace BK117 := bkb BK117 hb; replace BK118 := bkb BK118 hb; replace BK119 := bkb BK119 hb; replace HB := bst HB hb; clear hb) | (go_at_call 56; (with_reducible refine (spec_l2packets.calls k a1 _ _ l4 true _ ?side1 ?side2 A14.out).mono ?_); (case side1 => exact qc (Kd.C_below HR4.out HB.out)); (case side2 => exact HC4.out); rintro e w24 ⟨rfl, hb⟩; replace BK117 := bkb BK117 hb; replace BK118 := bkb BK118 hb; replace BK119 := bkb BK119 hb; replace HB := bst HB hb; clear hb))
      go_meet
      case rel => exact ⟨_, (true), (by first | rfl | (simp; done) | (simp [*]; done)), H', ⟨by first | omega | exact Nat.le_refl _⟩, ⟨qb BK117⟩, ⟨qb BK118⟩, ⟨qb BK119⟩, ⟨(qs HB)⟩⟩
     rw [if_neg c16] at H
     have c16b0 : decide (100 < (l3.length : Int)) = false := decide_eq_false c16
     have c16b1 : decide (100 < l3.length) = false := decide_eq_false (by omega)
     clear c16
     (first | rw [c16b0] | (simp only [i64_w, i32_w]; rw [c16b0]) | skip)
     have H' := Aside0.mk H
     clear H
     have hnb25 := NB117_118.out
     have hnc25 := NB118_117.out
     have hnb26 := NB117_119.out
     have hnc26 := NB119_117.out
     have hcz27_0 := b0 BK117
     have hcz27_1 := b1 BK117
     have hcz27_2 := b2 BK117
     have hfz27_0 := blk_frozen BK117.out 0
     have hfz27_1 := blk_frozen BK117.out 1
     have hfz27_2 := blk_frozen BK117.out 2
     go_wp2_with (first | ((with_reducible refine gate_callee (f := 54) rfl ?_); refine goesLA (some 18) rfl Try.func54 #[.agg #[.int .i64 a0_0, .int .i64 a0_1, .int .i64 a0_2]] ?_; (with_reducible refine (spec_RulesOk.calls a0_0 a0_1 a0_2 true _ A10.out).mono ?_); rintro e w28 ⟨rfl, hb⟩; refine ⟨_, rfl, ?_⟩; replace BK117 := bkb BK117 hb; replace BK118 := bkb BK118 hb; replace BK119 := bkb BK119 hb; replace HB := bst HB hb; clear hb; have hnb29 := NB118_119.out; have hnc29 := NB119_118.out; have hcz30_0 := b0 BK118; have hcz30_1 := b1 BK118; have hcz30_2 := b2 BK118; have hcz30_3 := b3 BK118; have hcz30_4 := b4 BK118; have hfz30_0 := blk_frozen BK118.out 0; have hfz30_1 := blk_frozen BK118.out 1; have hfz30_2 := blk_frozen BK118.out 2; have hfz30_3 := blk_frozen BK118.out 3; have hfz30_4 := blk_frozen BK118.out 4) | (go_at_call 55; (with_reducible refine (spec_BoxOk.calls a1 a2_0 a2_1 a2_2 a2_3 a2_4 true _ A12.out).mono ?_); rintro e w31 ⟨rfl, hb⟩; replace BK117 := bkb BK117 hb; replace BK118 := bkb BK118 hb; replace BK119 := bkb BK119 hb; replace HB := bst HB hb; clear hb) | (go_at_call 56; (with_reducible refine (spec_l2packets.calls k a1 _ _ l4 true _ ?side1 ?side2 A14.out).mono ?_); (case side1 => exact qc (Kd.C_below HR4.out HB.out)); (case side2 => exact HC4.out); rintro e w32 ⟨rfl, hb⟩; replace BK117 := bkb BK117 hb; replace BK118 := bkb BK118 hb; replace BK119 := bkb BK119 hb; replace HB := bst HB hb; clear hb; have hcz33_0 := b0 BK118; have hcz33_1 := b1 BK118; have hcz33_2 := b2 BK118; have hcz33_3 := b3 BK118; have hcz33_4 := b4 BK118; have hfz33_0 := blk_frozen BK118.out 0; have hfz33_1 := blk_frozen BK118.out 1; have hfz33_2 := blk_frozen BK118.out 2; have hfz33_3 := blk_frozen BK118.out 3; have hfz33_4 := blk_frozen BK118.out 4))
     go_meet
     case rel => exact ⟨_, (decide ((wrap64 (a2_0 + (l3.length : Int))) > 1000000000)), (by first | rfl | (simp; done) | (simp [*]; done)), H', ⟨by first | omega | exact Nat.le_refl _⟩, ⟨qb BK117⟩, ⟨qb BK118⟩, ⟨qb BK119⟩, ⟨(qs HB)⟩⟩
    replace c15 := Bool.eq_false_iff.mpr c15
    subst c15
    have H1 : (spec_BoxTick.j0 k a1 l3 l4 true a0_0 a0_1 a0_2 a2_0 a2_1 a2_2 a2_3 a2_4) = some (r1, r2, r3, r4, r5, r6, r7) := by rw [if_neg (show ¬ (false = true) by decide)] at H; exact H
    clear H; have H := H1; clear H1
    have H' := Aside0.mk H
    clear H
    have hnb34 := NB117_118.out
    have hnc34 := NB118_117.out
    have hnb35 := NB117_119.out
    have hnc35 := NB119_117.out
    have hcz36_0 := b0 BK117
    have hcz36_1 := b1 BK117
    have hcz36_2 := b2 BK117
    have hfz36_0 := blk_frozen BK117.out 0
    have hfz36_1 := blk_frozen BK117.out 1
    have hfz36_2 := blk_frozen BK117.out 2
    go_wp2_with (first | ((with_reducible refine gate_callee (f := 54) rfl ?_); refine goesLA (some 18) rfl Try.func54 #[.agg #[.int .i64 a0_0, .int .i64 a0_1, .int .i64 a0_2]] ?_; (with_reducible refine (spec_RulesOk.calls a0_0 a0_1 a0_2 true _ A10.out).mono ?_); rintro e w37 ⟨rfl, hb⟩; refine ⟨_, rfl, ?_⟩; replace BK117 := bkb BK117 hb; replace BK118 := bkb BK118 hb; replace BK119 := bkb BK119 hb; replace HB := bst HB hb; clear hb; have hnb38 := NB118_119.out; have hnc38 := NB119_118.out; have hcz39_0 := b0 BK118; have hcz39_1 := b1 BK118; have hcz39_2 := b2 BK118; have hcz39_3 := b3 BK118; have hcz39_4 := b4 BK118; have hfz39_0 := blk_frozen BK118.out 0; have hfz39_1 := blk_frozen BK118.out 1; have hfz39_2 := blk_frozen BK118.out 2; have hfz39_3 := blk_frozen BK118.out 3; have hfz39_4 := blk_frozen BK118.out 4) | (go_at_call 55; (with_reducible refine (spec_BoxOk.calls a1 a2_0 a2_1 a2_2 a2_3 a2_4 true _ A12.out).mono ?_); rintro e w40 ⟨rfl, hb⟩; replace BK117 := bkb BK117 hb; replace BK118 := bkb BK118 hb; replace BK119 := bkb BK119 hb; replace HB := bst HB hb; clear hb) | (go_at_call 56; (with_reducible refine (spec_l2packets.calls k a1 _ _ l4 false _ ?side1 ?side2 A14.out).mono ?_); (case side1 => exact qc (Kd.C_below HR4.out HB.out)); (case side2 => exact HC4.out); rintro e w41 ⟨rfl, hb⟩; replace BK117 := bkb BK117 hb; replace BK118 := bkb BK118 hb; replace BK119 := bkb BK119 hb; replace HB := bst HB hb; clear hb))
    go_meet
    case rel => exact ⟨_, (true), (by first | rfl | (simp; done) | (simp [*]; done)), H', ⟨by first | omega | exact Nat.le_refl _⟩, ⟨qb BK117⟩, ⟨qb BK118⟩, ⟨qb BK119⟩, ⟨(qs HB)⟩⟩
   replace c13 := Bool.eq_false_iff.mpr c13
   subst c13
   have H1 : (spec_BoxTick.j0 k a1 l3 l4 true a0_0 a0_1 a0_2 a2_0 a2_1 a2_2 a2_3 a2_4) = some (r1, r2, r3, r4, r5, r6, r7) := by rw [if_neg (show ¬ (false = true) by decide)] at H; exact H
   clear H; have H := H1; clear H1
   have H' := Aside0.mk H
   clear H
   have hnb42 := NB117_118.out
   have hnc42 := NB118_117.out
   have hnb43 := NB117_119.out
   have hnc43 := NB119_117.out
   have hcz44_0 := b0 BK117
   have hcz44_1 := b1 BK117
   have hcz44_2 := b2 BK117
   have hfz44_0 := blk_frozen BK117.out 0
   have hfz44_1 := blk_frozen BK117.out 1
   have hfz44_2 := blk_frozen BK117.out 2
   go_wp2_with (first | ((with_reducible refine gate_callee (f := 54) rfl ?_); refine goesLA (some 18) rfl Try.func54 #[.agg #[.int .i64 a0_0, .int .i64 a0_1, .int .i64 a0_2]] ?_; (with_reducible refine (spec_RulesOk.calls a0_0 a0_1 a0_2 true _ A10.out).mono ?_); rintro e w45 ⟨rfl, hb⟩; refine ⟨_, rfl, ?_⟩; replace BK117 := bkb BK117 hb; replace BK118 := bkb BK118 hb; replace BK119 := bkb BK119 hb; replace HB := bst HB hb; clear hb; have hnb46 := NB118_119.out; have hnc46 := NB119_118.out; have hcz47_0 := b0 BK118; have hcz47_1 := b1 BK118; have hcz47_2 := b2 BK118; have hcz47_3 := b3 BK118; have hcz47_4 := b4 BK118; have hfz47_0 := blk_frozen BK118.out 0; have hfz47_1 := blk_frozen BK118.out 1; have hfz47_2 := blk_frozen BK118.out 2; have hfz47_3 := blk_frozen BK118.out 3; have hfz47_4 := blk_frozen BK118.out 4) | (go_at_call 55; (with_reducible refine (spec_BoxOk.calls a1 a2_0 a2_1 a2_2 a2_3 a2_4 false _ A12.out).mono ?_); rintro e w48 ⟨rfl, hb⟩; replace BK117 := bkb BK117 hb; replace BK118 := bkb BK118 hb; replace BK119 := bkb BK119 hb; replace HB := bst HB hb; clear hb))
   go_meet
   case rel => exact ⟨_, (true), (by first | rfl | (simp; done) | (simp [*]; done)), H', ⟨by first | omega | exact Nat.le_refl _⟩, ⟨qb BK117⟩, ⟨qb BK118⟩, ⟨qb BK119⟩, ⟨(qs HB)⟩⟩
  replace c11 := Bool.eq_false_iff.mpr c11
  subst c11
  have H1 : (spec_BoxTick.j0 k a1 l3 l4 true a0_0 a0_1 a0_2 a2_0 a2_1 a2_2 a2_3 a2_4) = some (r1, r2, r3, r4, r5, r6, r7) := by rw [if_neg (show ¬ (false = true) by decide)] at H; exact H
  clear H; have H := H1; clear H1
  have H' := Aside0.mk H
  clear H
  have hnb49 := NB117_118.out
  have hnc49 := NB118_117.out
  have hnb50 := NB117_119.out
  have hnc50 := NB119_117.out
  have hcz51_0 := b0 BK117
  have hcz51_1 := b1 BK117
  have hcz51_2 := b2 BK117
  have hfz51_0 := blk_frozen BK117.out 0
  have hfz51_1 := blk_frozen BK117.out 1
  have hfz51_2 := blk_frozen BK117.out 2
  go_wp2_with (first | ((with_reducible refine gate_callee (f := 54) rfl ?_); refine goesLA (some 18) rfl Try.func54 #[.agg #[.int .i64 a0_0, .int .i64 a0_1, .int .i64 a0_2]] ?_; (with_reducible refine (spec_RulesOk.calls a0_0 a0_1 a0_2 false _ A10.out).mono ?_); rintro e w52 ⟨rfl, hb⟩; refine ⟨_, rfl, ?_⟩; replace BK117 := bkb BK117 hb; replace BK118 := bkb BK118 hb; replace BK119 := bkb BK119 hb; replace HB := bst HB hb; clear hb))
  go_meet
  case rel => exact ⟨_, (true), (by first | rfl | (simp; done) | (simp [*]; done)), H', ⟨by first | omega | exact Nat.le_refl _⟩, ⟨qb BK117⟩, ⟨qb BK118⟩, ⟨qb BK119⟩, ⟨(qs HB)⟩⟩
 case rest =>
  clear HC6
  try clear c1; try clear c2; try clear p2; try clear c3; try clear c4; try clear c5; try clear p6; try clear c11; try clear c12; try clear c13; try clear c15; try clear c16; try clear c16b0; try clear c16b1; try clear c17; try clear c18; try clear c21; try clear c25; try clear c26; try clear c29; try clear c34; try clear c35; try clear c38; try clear c42; try clear c43; try clear c46; try clear c49; try clear c50; try clear hcz19_0; try clear hcz19_1; try clear hcz19_2; try clear hcz22_0; try clear hcz22_1; try clear hcz22_2; try clear hcz22_3; try clear hcz22_4; try clear hcz27_0; try clear hcz27_1; try clear hcz27_2; try clear hcz30_0; try clear hcz30_1; try clear hcz30_2; try clear hcz30_3; try clear hcz30_4; try clear hcz33_0; try clear hcz33_1; try clear hcz33_2; try clear hcz33_3; try clear hcz33_4; try clear hcz36_0; try clear hcz36_1; try clear hcz36_2; try clear hcz39_0; try clear hcz39_1; try clear hcz39_2; try clear hcz39_3; try clear hcz39_4; try clear hcz44_0; try clear hcz44_1; try clear hcz44_2; try clear hcz47_0; try clear hcz47_1; try clear hcz47_2; try clear hcz47_3; try clear hcz47_4; try clear hcz51_0; try clear hcz51_1; try clear hcz51_2; try clear hfz19_0; try clear hfz19_1; try clear hfz19_2; try clear hfz22_0; try clear hfz22_1; try clear hfz22_2; try clear hfz22_3; try clear hfz22_4; try clear hfz27_0; try clear hfz27_1; try clear hfz27_2; try clear hfz30_0; try clear hfz30_1; try clear hfz30_2; try clear hfz30_3; try clear hfz30_4; try clear hfz33_0; try clear hfz33_1; try clear hfz33_2; try clear hfz33_3; try clear hfz33_4; try clear hfz36_0; try clear hfz36_1; try clear hfz36_2; try clear hfz39_0; try clear hfz39_1; try clear hfz39_2; try clear hfz39_3; try clear hfz39_4; try clear hfz44_0; try clear hfz44_1; try clear hfz44_2; try clear hfz47_0; try clear hfz47_1; try clear hfz47_2; try clear hfz47_3; try clear hfz47_4; try clear hfz51_0; try clear hfz51_1; try clear hfz51_2
  obtain ⟨kq, x44_5, rfl, HA, HJ5, BK117, BK118, BK119, HB⟩ := hcut
  cases kq with
  | zero => exact absurd HA.out (by simp [spec_BoxTick.j0])
  | succ kj5 =>
   have H := HA.out
   clear HA
   simp only [spec_BoxTick.j0] at H
   by_cases c53 : x44_5 = true
   ·subst c53
    have H1 : (some (false, 0, 0, 0, 0, 0, ([] : List (S60)))) = some (r1, r2, r3, r4, r5, r6, r7) := by rw [if_pos rfl] at H; exact H
    clear H; have H := H1; clear H1
    simp only [Option.some.injEq, Prod.mk.injEq] at H
    obtain ⟨rfl, rfl, rfl, rfl, rfl, rfl, rfl⟩ := H
    have hnb54 := NB119_117.out
    have hnc54 := NB117_119.out
    have hnb55 := NB119_118.out
    have hnc55 := NB118_119.out
    have hcz56_0 := b0 BK119
    have hcz56_1 := b1 BK119
    have hcz56_2 := b2 BK119
    have hcz56_3 := b3 BK119
    have hcz56_4 := b4 BK119
    have hcz56_5 := b5 BK119
    have hcz56_6 := b6 BK119
    have hfz56_0 := blk_frozen BK119.out 0
    have hfz56_1 := blk_frozen BK119.out 1
    have hfz56_2 := blk_frozen BK119.out 2
    have hfz56_3 := blk_frozen BK119.out 3
    have hfz56_4 := blk_frozen BK119.out 4
    have hfz56_5 := blk_frozen BK119.out 5
    have hfz56_6 := blk_frozen BK119.out 6
    go_wp2
    refine bodyPost_ret (results_cell_row rfl _ _ gb119 32 #[.bool false, .int .i64 0, .int .i64 0, .int .i64 0, .int .i64 0, .int .i64 0, .slice none 0 0] (0, 0) _ rfl (by refine qz ?_; refine blk_put (cs := #[.bool false, .int .i64 0, .int .i64 0, .int .i64 0, .int .i64 0, .int .i64 0, .slice none 0 0]) ?_ 6 _ rfl; refine qz ?_; refine blk_put (cs := #[.bool false, .int .i64 0, .int .i64 0, .int .i64 0, .int .i64 0, .int .i64 0, .slice none 0 0]) ?_ 5 _ rfl; refine qz ?_; refine blk_put (cs := #[.bool false, .int .i64 0, .int .i64 0, .int .i64 0, .int .i64 0, .int .i64 0, .slice none 0 0]) ?_ 4 _ rfl; refine qz ?_; refine blk_put (cs := #[.bool false, .int .i64 0, .int .i64 0, .int .i64 0, .int .i64 0, .int .i64 0, .slice none 0 0]) ?_ 3 _ rfl; refine qz ?_; refine blk_put (cs := #[.bool false, .int .i64 0, .int .i64 0, .int .i64 0, .int .i64 0, .int .i64 0, .slice none 0 0]) ?_ 2 _ rfl; refine qz ?_; refine blk_put (cs := #[.bool false, .int .i64 0, .int .i64 0, .int .i64 0, .int .i64 0, .int .i64 0, .slice none 0 0]) ?_ 1 _ rfl; refine qz ?_; refine blk_put (cs := #[.bool false, .int .i64 0, .int .i64 0, .int .i64 0, .int .i64 0, .int .i64 0, .slice none 0 0]) ?_ 0 _ rfl; refine qz ?_; exact BK119.out) Try.underlying32 rfl (by kernel_rfl)) rfl ?_
    exact ⟨_, by first | rfl | (simp [*, errW_none, errW_some] <;> rfl), by first | exact Kd.R_nil _ _ _ _ _ | exact Kd.N_nil _ _ _ _ _ | exact Kd.V_nil _ _ _ _ _ | exact Kd.Q_nil _ _ _ _ _ | exact Kd.S_nil _ _ _ _ _, (qs HB)⟩
   replace c53 := Bool.eq_false_iff.mpr c53
   subst c53
   have H1 : (spec_BoxTick.l0 kj5 a1 l3 l4 (l4.length : Int) 0 a0_0 a0_1 a0_2 true a2_0 a2_1 a2_2 a2_3 a2_4) = some (r1, r2, r3, r4, r5, r6, r7) := by rw [if_neg (show ¬ (false = true) by decide)] at H; exact H
   clear H; have H := H1; clear H1
   have H' := Aside0.mk H
   clear H
   have hnb57 := NB118_117.out
   have hnc57 := NB117_118.out
   have hnb58 := NB118_119.out
   have hnc58 := NB119_118.out
   have hcz59_0 := b0 BK118
   have hcz59_1 := b1 BK118
   have hcz59_2 := b2 BK118
   have hcz59_3 := b3 BK118
   have hcz59_4 := b4 BK118
   have hfz59_0 := blk_frozen BK118.out 0
   have hfz59_1 := blk_frozen BK118.out 1
   have hfz59_2 := blk_frozen BK118.out 2
   have hfz59_3 := blk_frozen BK118.out 3
   have hfz59_4 := blk_frozen BK118.out 4
   go_wp2_with (first | ((with_reducible refine gate_dst (N := 11) rfl ?_); (try (refine gate_guard (by rfl) ?_; dsimp only)); refine boxA #[.bool false, .int .i64 0, .int .i64 0, .int .i64 0, .int .i64 0, .int .i64 0, .slice none 0 0] 32 ?_; intro gb123 hg w60 hbox hb; have BK123 := Aside0.mk (hbox); have GW123 := nge HB hg; have GE123 := nge HB hg; replace HB := bst HB hb; have NB117_123 := nlt BK117 hg; have NB123_117 := ngt BK117 hg; replace BK117 := bkb BK117 hb; have NB118_123 := nlt BK118 hg; have NB123_118 := ngt BK118 hg; replace BK118 := bkb BK118 hb; have NB119_123 := nlt BK119 hg; have NB123_119 := ngt BK119 hg; replace BK119 := bkb BK119 hb; clear hb hbox hg; have hnb61 := NB123_117.out; have hnc61 := NB117_123.out; have hnb62 := NB123_118.out; have hnc62 := NB118_123.out; have hnb63 := NB123_119.out; have hnc63 := NB119_123.out; have hcz64_0 := b0 BK123; have hcz64_1 := b1 BK123; have hcz64_2 := b2 BK123; have hcz64_3 := b3 BK123; have hcz64_4 := b4 BK123; have hcz64_5 := b5 BK123; have hcz64_6 := b6 BK123; have hfz64_0 := blk_frozen BK123.out 0; have hfz64_1 := blk_frozen BK123.out 1; have hfz64_2 := blk_frozen BK123.out 2; have hfz64_3 := blk_frozen BK123.out 3; have hfz64_4 := blk_frozen BK123.out 4; have hfz64_5 := blk_frozen BK123.out 5; have hfz64_6 := blk_frozen BK123.out 6))
   go_loopg [51] kj5 (fun kq v51 w' => ∃ (x51_2 : Int) (x124003_2 : Int) (x124005_2 : Int), v51 = .int .i64 x51_2 ∧ Aside0 (spec_BoxTick.l0 kq a1 l3 l4 (l4.length : Int) x51_2 a0_0 a0_1 a0_2 true a2_0 a2_1 x124003_2 a2_3 x124005_2 = some (r1, r2, r3, r4, r5, r6, r7)) ∧ Aside0 (kq ≤ kj5) ∧ Aside0 (w'.heap[gb117]? = some (.cells #[.int .i64 a0_0, .int .i64 a0_1, .int .i64 a0_2] 34 (0, 0))) ∧ Aside0 (w'.heap[gb118]? = some (.cells #[.int .i64 a2_0, .int .i64 a2_1, .int .i64 a2_2, .int .i64 a2_3, .int .i64 a2_4] 29 (0, 0))) ∧ Aside0 (w'.heap[gb119]? = some (.cells #[.bool false, .int .i64 0, .int .i64 0, .int .i64 0, .int .i64 0, .int .i64 0, (.slice none 0 0)] 32 (0, 0))) ∧ Aside0 (w'.heap[gb123]? = some (.cells #[.bool true, .int .i64 a2_0, .int .i64 a2_1, .int .i64 x124003_2, .int .i64 a2_3, .int .i64 x124005_2, (.slice none 0 0)] 32 (0, 0))) ∧ Aside0 (Below w.heap.size w w'))
   case atStart => exact ⟨(0), (a2_2), (a2_4), (by first | rfl | (simp; done) | (simp [*]; done)), H', ⟨Nat.le_refl _⟩, ⟨qB BK117⟩, ⟨qB BK118⟩, ⟨qB BK119⟩, ⟨by refine qz ?_; refine blk_put (cs := #[.bool true, .int .i64 a2_0, .int .i64 a2_1, .int .i64 a2_2, .int .i64 a2_3, .int .i64 a2_4, .slice none 0 0]) ?_ 6 _ rfl; refine qz ?_; refine blk_put (cs := #[.bool true, .int .i64 a2_0, .int .i64 a2_1, .int .i64 a2_2, .int .i64 a2_3, .int .i64 0, .slice none 0 0]) ?_ 5 _ rfl; refine qz ?_; refine blk_put (cs := #[.bool true, .int .i64 a2_0, .int .i64 a2_1, .int .i64 a2_2, .int .i64 0, .int .i64 0, .slice none 0 0]) ?_ 4 _ rfl; refine qz ?_; refine blk_put (cs := #[.bool true, .int .i64 a2_0, .int .i64 a2_1, .int .i64 0, .int .i64 0, .int .i64 0, .slice none 0 0]) ?_ 3 _ rfl; refine qz ?_; refine blk_put (cs := #[.bool true, .int .i64 a2_0, .int .i64 0, .int .i64 0, .int .i64 0, .int .i64 0, .slice none 0 0]) ?_ 2 _ rfl; refine qz ?_; refine blk_put (cs := #[.bool true, .int .i64 0, .int .i64 0, .int .i64 0, .int .i64 0, .int .i64 0, .slice none 0 0]) ?_ 1 _ rfl; refine qz ?_; refine blk_put (cs := #[.bool false, .int .i64 0, .int .i64 0, .int .i64 0, .int .i64 0, .int .i64 0, .slice none 0 0]) ?_ 0 _ rfl; refine qz ?_; exact BK123.out⟩, ⟨(qs HB)⟩⟩
   case round =>
    clear H'
    try clear c1; try clear c2; try clear p2; try clear c3; try clear c4; try clear c5; try clear c6; try clear p6; try clear c11; try clear c12; try clear c13; try clear c15; try clear c16; try clear c16b0; try clear c16b1; try clear c17; try clear c18; try clear c21; try clear c25; try clear c26; try clear c29; try clear c34; try clear c35; try clear c38; try clear c42; try clear c43; try clear c46; try clear c49; try clear c50; try clear c53; try clear c54; try clear c55; try clear c57; try clear c58; try clear c61; try clear c62; try clear c63; try clear p64; try clear hcz19_0; try clear hcz19_1; try clear hcz19_2; try clear hcz22_0; try clear hcz22_1; try clear hcz22_2; try clear hcz22_3; try clear hcz22_4; try clear hcz27_0; try clear hcz27_1; try clear hcz27_2; try clear hcz30_0; try clear hcz30_1; try clear hcz30_2; try clear hcz30_3; try clear hcz30_4; try clear hcz33_0; try clear hcz33_1; try clear hcz33_2; try clear hcz33_3; try clear hcz33_4; try clear hcz36_0; try clear hcz36_1; try clear hcz36_2; try clear hcz39_0; try clear hcz39_1; try clear hcz39_2; try clear hcz39_3; try clear hcz39_4; try clear hcz44_0; try clear hcz44_1; try clear hcz44_2; try clear hcz47_0; try clear hcz47_1; try clear hcz47_2; try clear hcz47_3; try clear hcz47_4; try clear hcz51_0; try clear hcz51_1; try clear hcz51_2; try clear hcz56_0; try clear hcz56_1; try clear hcz56_2; try clear hcz56_3; try clear hcz56_4; try clear hcz56_5; try clear hcz56_6; try clear hcz59_0; try clear hcz59_1; try clear hcz59_2; try clear hcz59_3; try clear hcz59_4; try clear hcz64_0; try clear hcz64_1; try clear hcz64_2; try clear hcz64_3; try clear hcz64_4; try clear hcz64_5; try clear hcz64_6; try clear hfz19_0; try clear hfz19_1; try clear hfz19_2; try clear hfz22_0; try clear hfz22_1; try clear hfz22_2; try clear hfz22_3; try clear hfz22_4; try clear hfz27_0; try clear hfz27_1; try clear hfz27_2; try clear hfz30_0; try clear hfz30_1; try clear hfz30_2; try clear hfz30_3; try clear hfz30_4; try clear hfz33_0; try clear hfz33_1; try clear hfz33_2; try clear hfz33_3; try clear hfz33_4; try clear hfz36_0; try clear hfz36_1; try clear hfz36_2; try clear hfz39_0; try clear hfz39_1; try clear hfz39_2; try clear hfz39_3; try clear hfz39_4; try clear hfz44_0; try clear hfz44_1; try clear hfz44_2; try clear hfz47_0; try clear hfz47_1; try clear hfz47_2; try clear hfz47_3; try clear hfz47_4; try clear hfz51_0; try clear hfz51_1; try clear hfz51_2; try clear hfz56_0; try clear hfz56_1; try clear hfz56_2; try clear hfz56_3; try clear hfz56_4; try clear hfz56_5; try clear hfz56_6; try clear hfz59_0; try clear hfz59_1; try clear hfz59_2; try clear hfz59_3; try clear hfz59_4; try clear hfz64_0; try clear hfz64_1; try clear hfz64_2; try clear hfz64_3; try clear hfz64_4; try clear hfz64_5; try clear hfz64_6; try clear p2; try clear p6
    obtain ⟨x51_2, x124003_2, x124005_2, rfl, HA, HK2, BK117, BK118, BK119, BK123, HB⟩ := hrel
    cases gk with
    | zero => exact absurd HA.out (by simp [spec_BoxTick.l0])
    | succ k2 =>
     have H := HA.out
     clear HA
     simp only [spec_BoxTick.l0] at H
     by_cases c65 : x51_2 < (l4.length : Int)
     ·rw [if_pos c65] at H
      have c65b0 : decide (x51_2 < (l4.length : Int)) = true := decide_eq_true c65
      clear c65
      by_cases c66 : 0 ≤ x51_2
      ·rw [if_pos c66] at H
       have c66b0 : decide (0 ≤ x51_2) = true := decide_eq_true c66
       clear c66
       by_cases c67 : x51_2 < (l4.length : Int)
       ·rw [if_pos c67] at H
        have c67b0 : decide (x51_2 < (l4.length : Int)) = true := decide_eq_true c67
        clear c67
        have HC68 := Aside0.mk H
        clear H
        have p124 : 0 ≤ (x51_2 : Int) := of_decide_eq_true (by assumption)
        have q124 : x51_2 < (l4.length : Int) := of_decide_eq_true (by assumption)
        obtain ⟨ad124, e124, hx124_0, hx124_1, hx124_2, hx124_3⟩ := at_T60 HR4.out x51_2 p124 q124
        cases e124
        replace hx124_0 := (HB.out.cell (World.block_lt_of_cell? w _ hx124_0)).trans hx124_0
        replace hx124_1 := (HB.out.cell (World.block_lt_of_cell? w _ hx124_1)).trans hx124_1
        replace hx124_2 := (HB.out.cell (World.block_lt_of_cell? w _ hx124_2)).trans hx124_2
        replace hx124_3 := (HB.out.cell (World.block_lt_of_cell? w _ hx124_3)).trans hx124_3
        replace p124 := eq_true p124
        replace q124 := eq_true q124
        go_upto_region 8 with (first | ((with_reducible refine gate_dst (N := 14) rfl ?_); (try (refine gate_guard (by rfl) ?_; dsimp only)); refine boxA #[.int .i64 0, .int .i64 0, .int .i64 0, .int .i64 0] 60 ?_; intro gb125 hg w69 hbox hb; have BK125 := Aside0.mk (hbox); have GW125 := nge HB hg; have GE125 := nge HB hg; replace HB := bst HB hb; have NB117_125 := nlt BK117 hg; have NB125_117 := ngt BK117 hg; replace BK117 := bkb BK117 hb; have NB118_125 := nlt BK118 hg; have NB125_118 := ngt BK118 hg; replace BK118 := bkb BK118 hb; have NB119_125 := nlt BK119 hg; have NB125_119 := ngt BK119 hg; replace BK119 := bkb BK119 hb; have NB123_125 := nlt BK123 hg; have NB125_123 := ngt BK123 hg; replace BK123 := bkb BK123 hb; clear hb hbox hg; have hnb70 := NB125_117.out; have hnc70 := NB117_125.out; have hnb71 := NB125_118.out; have hnc71 := NB118_125.out; have hnb72 := NB125_119.out; have hnc72 := NB119_125.out; have hnb73 := NB125_123.out; have hnc73 := NB123_125.out; have hcz74_0 := b0 BK125; have hcz74_1 := b1 BK125; have hcz74_2 := b2 BK125; have hcz74_3 := b3 BK125; have hfz74_0 := blk_frozen BK125.out 0; have hfz74_1 := blk_frozen BK125.out 1; have hfz74_2 := blk_frozen BK125.out 2; have hfz74_3 := blk_frozen BK125.out 3))
        (try simp only [Act.put, List.setIfInBounds_toArray, List.set_cons_zero, List.set_cons_succ])
        go_cut [66] (fun v66 wc => ∃ (kq : Nat) (x66_67 : Bool), v66 = .bool x66_67 ∧ Aside0 (spec_BoxTick.j2 kq a1 l3 l4 (l4.length : Int) x51_2 x66_67 a0_0 a0_1 a0_2 true a2_0 a2_1 x124003_2 a2_3 x124005_2 ((rd_T60 l4 x51_2).f0) ((rd_T60 l4 x51_2).f1) ((rd_T60 l4 x51_2).f2) ((rd_T60 l4 x51_2).f3) = some (r1, r2, r3, r4, r5, r6, r7)) ∧ Aside0 (kq ≤ k2) ∧ Aside0 (wc.heap[gb117]? = some (.cells #[.int .i64 a0_0, .int .i64 a0_1, .int .i64 a0_2] 34 (0, 0))) ∧ Aside0 (wc.heap[gb118]? = some (.cells #[.int .i64 a2_0, .int .i64 a2_1, .int .i64 a2_2, .int .i64 a2_3, .int .i64 a2_4] 29 (0, 0))) ∧ Aside0 (wc.heap[gb119]? = some (.cells #[.bool false, .int .i64 0, .int .i64 0, .int .i64 0, .int .i64 0, .int .i64 0, (.slice none 0 0)] 32 (0, 0))) ∧ Aside0 (wc.heap[gb123]? = some (.cells #[.bool true, .int .i64 a2_0, .int .i64 a2_1, .int .i64 x124003_2, .int .i64 a2_3, .int .i64 x124005_2, (.slice none 0 0)] 32 (0, 0))) ∧ Aside0 (wc.heap[gb125]? = some (.cells #[.int .i64 ((rd_T60 l4 x51_2).f0), .int .i64 ((rd_T60 l4 x51_2).f1), .int .i64 ((rd_T60 l4 x51_2).f2), .int .i64 ((rd_T60 l4 x51_2).f3)] 60 (0, 0))) ∧ Aside0 (Below w.heap.size w wc))
        case first =>
         have H := HC68.out
         clear HC68
         by_cases c75 : ((rd_T60 l4 x51_2).f0) = 2
         ·rw [if_pos c75] at H
          have c75b0 : (((rd_T60 l4 x51_2).f0) == 2) = true := beq_iff_eq.mpr c75
          have c75b1 : (((rd_T60 l4 x51_2).f0) != 2) = false := bne_eq_false_iff_eq.mpr c75
          clear c75
          (first | rw [c75b0] | (simp only [i64_w, i32_w]; rw [c75b0]) | skip)
          have H' := Aside0.mk H
          clear H
          try go_wp2
          have n0_ : Aside0 (((((w69.setCell ⟨gb125, 0, none⟩ (.int .i64 ((rd_T60 l4 x51_2).f0))).setCell ⟨gb125, 1, none⟩ (.int .i64 ((rd_T60 l4 x51_2).f1))).setCell ⟨gb125, 2, none⟩ (.int .i64 ((rd_T60 l4 x51_2).f2))).setCell ⟨gb125, 3, none⟩ (.int .i64 ((rd_T60 l4 x51_2).f3))).heap[gb117]? = some (.cells #[.int .i64 a0_0, .int .i64 a0_1, .int .i64 a0_2] 34 (0, 0))) := ⟨qB BK117⟩
          have n1_ : Aside0 (((((w69.setCell ⟨gb125, 0, none⟩ (.int .i64 ((rd_T60 l4 x51_2).f0))).setCell ⟨gb125, 1, none⟩ (.int .i64 ((rd_T60 l4 x51_2).f1))).setCell ⟨gb125, 2, none⟩ (.int .i64 ((rd_T60 l4 x51_2).f2))).setCell ⟨gb125, 3, none⟩ (.int .i64 ((rd_T60 l4 x51_2).f3))).heap[gb118]? = some (.cells #[.int .i64 a2_0, .int .i64 a2_1, .int .i64 a2_2, .int .i64 a2_3, .int .i64 a2_4] 29 (0, 0))) := ⟨qB BK118⟩
          have n2_ : Aside0 (((((w69.setCell ⟨gb125, 0, none⟩ (.int .i64 ((rd_T60 l4 x51_2).f0))).setCell ⟨gb125, 1, none⟩ (.int .i64 ((rd_T60 l4 x51_2).f1))).setCell ⟨gb125, 2, none⟩ (.int .i64 ((rd_T60 l4 x51_2).f2))).setCell ⟨gb125, 3, none⟩ (.int .i64 ((rd_T60 l4 x51_2).f3))).heap[gb119]? = some (.cells #[.bool false, .int .i64 0, .int .i64 0, .int .i64 0, .int .i64 0, .int .i64 0, .slice none 0 0] 32 (0, 0))) := ⟨qB BK119⟩
          have n3_ : Aside0 (((((w69.setCell ⟨gb125, 0, none⟩ (.int .i64 ((rd_T60 l4 x51_2).f0))).setCell ⟨gb125, 1, none⟩ (.int .i64 ((rd_T60 l4 x51_2).f1))).setCell ⟨gb125, 2, none⟩ (.int .i64 ((rd_T60 l4 x51_2).f2))).setCell ⟨gb125, 3, none⟩ (.int .i64 ((rd_T60 l4 x51_2).f3))).heap[gb123]? = some (.cells #[.bool true, .int .i64 a2_0, .int .i64 a2_1, .int .i64 x124003_2, .int .i64 a2_3, .int .i64 x124005_2, .slice none 0 0] 32 (0, 0))) := ⟨qB BK123⟩
          have n4_ : Aside0 (((((w69.setCell ⟨gb125, 0, none⟩ (.int .i64 ((rd_T60 l4 x51_2).f0))).setCell ⟨gb125, 1, none⟩ (.int .i64 ((rd_T60 l4 x51_2).f1))).setCell ⟨gb125, 2, none⟩ (.int .i64 ((rd_T60 l4 x51_2).f2))).setCell ⟨gb125, 3, none⟩ (.int .i64 ((rd_T60 l4 x51_2).f3))).heap[gb125]? = some (.cells #[.int .i64 ((rd_T60 l4 x51_2).f0), .int .i64 ((rd_T60 l4 x51_2).f1), .int .i64 ((rd_T60 l4 x51_2).f2), .int .i64 ((rd_T60 l4 x51_2).f3)] 60 (0, 0))) := ⟨by refine qz ?_; refine blk_put (cs := #[.int .i64 ((rd_T60 l4 x51_2).f0), .int .i64 ((rd_T60 l4 x51_2).f1), .int .i64 ((rd_T60 l4 x51_2).f2), .int .i64 0]) ?_ 3 _ rfl; refine qz ?_; refine blk_put (cs := #[.int .i64 ((rd_T60 l4 x51_2).f0), .int .i64 ((rd_T60 l4 x51_2).f1), .int .i64 0, .int .i64 0]) ?_ 2 _ rfl; refine qz ?_; refine blk_put (cs := #[.int .i64 ((rd_T60 l4 x51_2).f0), .int .i64 0, .int .i64 0, .int .i64 0]) ?_ 1 _ rfl; refine qz ?_; refine blk_put (cs := #[.int .i64 0, .int .i64 0, .int .i64 0, .int .i64 0]) ?_ 0 _ rfl; refine qz ?_; exact BK125.out⟩
          have n5_ : Aside0 (Below w.heap.size w ((((w69.setCell ⟨gb125, 0, none⟩ (.int .i64 ((rd_T60 l4 x51_2).f0))).setCell ⟨gb125, 1, none⟩ (.int .i64 ((rd_T60 l4 x51_2).f1))).setCell ⟨gb125, 2, none⟩ (.int .i64 ((rd_T60 l4 x51_2).f2))).setCell ⟨gb125, 3, none⟩ (.int .i64 ((rd_T60 l4 x51_2).f3)))) := ⟨(qs HB)⟩
          (try clear BK117); (try clear BK118); (try clear BK119); (try clear BK123); (try clear BK125); (try clear HB)
          generalize ((((w69.setCell ⟨gb125, 0, none⟩ (.int .i64 ((rd_T60 l4 x51_2).f0))).setCell ⟨gb125, 1, none⟩ (.int .i64 ((rd_T60 l4 x51_2).f1))).setCell ⟨gb125, 2, none⟩ (.int .i64 ((rd_T60 l4 x51_2).f2))).setCell ⟨gb125, 3, none⟩ (.int .i64 ((rd_T60 l4 x51_2).f3))) = w76 at n0_ n1_ n2_ n3_ n4_ n5_ ⊢
          have BK117 := n0_; have BK118 := n1_; have BK119 := n2_; have BK123 := n3_; have BK125 := n4_; have HB := n5_; clear n0_ n1_ n2_ n3_ n4_ n5_
          replace BK117 := Aside0.mk (blk_drew BK117.out); replace BK118 := Aside0.mk (blk_drew BK118.out); replace BK119 := Aside0.mk (blk_drew BK119.out); replace BK123 := Aside0.mk (blk_drew BK123.out); replace BK125 := Aside0.mk (blk_drew BK125.out); replace HB := Aside0.mk (below_drew1 HB.out)
          refine start_ (n := 12) (S := fun w' => w'.cell? ⟨gb125, 0, none⟩ = some (.int .i64 ((rd_T60 l4 x51_2).f0)) ∧ w'.cell? ⟨gb125, 1, none⟩ = some (.int .i64 ((rd_T60 l4 x51_2).f1)) ∧ w'.cell? ⟨gb125, 2, none⟩ = some (.int .i64 ((rd_T60 l4 x51_2).f2)) ∧ w'.cell? ⟨gb125, 3, none⟩ = some (.int .i64 ((rd_T60 l4 x51_2).f3)) ∧ w'.cell? ⟨gb123, 0, none⟩ = some (.bool true) ∧ w'.cell? ⟨gb123, 1, none⟩ = some (.int .i64 a2_0) ∧ w'.cell? ⟨gb123, 2, none⟩ = some (.int .i64 a2_1) ∧ w'.cell? ⟨gb123, 3, none⟩ = some (.int .i64 x124003_2) ∧ w'.cell? ⟨gb123, 4, none⟩ = some (.int .i64 a2_3) ∧ w'.cell? ⟨gb123, 5, none⟩ = some (.int .i64 x124005_2) ∧ w'.cell? ⟨gb123, 6, none⟩ = some (.slice none 0 0)) (ds := []) #[false, false, false, false, false, false, false, false, false, false, false, false] (by kernel_rfl) rfl rfl ⟨bc BK125 0, bc BK125 1, bc BK125 2, bc BK125 3, bc BK123 0, bc BK123 1, bc BK123 2, bc BK123 3, bc BK123 4, bc BK123 5, bc BK123 6⟩ (fun hHeld => ?_); refine with_tabW spec_BoxTick.tab8 spec_BoxTick.bits8 (fun HT_ HW_ => ?_)
          generalize w76.drew = w77 at BK117 BK118 BK119 BK123 BK125 HB hHeld ⊢
          refine pureA 0 55 #[true, false, false, false, false, false, false, false, false, false, false, false] (any_of HT_.out (by kernel_rfl)) ?_
          refine takeA 1 56 #[true, true, false, false, false, false, false, false, false, false, false, false] (take_ofW HT_.out HW_.out (by kernel_rfl)) hHeld ?_
          refine pureA 2 57 #[true, true, true, false, false, false, false, false, false, false, false, false] (any_of HT_.out (by kernel_rfl)) ?_
          refine pureA 3 58 #[true, true, true, true, false, false, false, false, false, false, false, false] (any_of HT_.out (by kernel_rfl)) ?_
          refine pureA 4 59 #[true, true, true, true, true, false, false, false, false, false, false, false] (any_of HT_.out (by kernel_rfl)) ?_
          refine pureA 6 61 #[true, true, true, true, true, false, true, false, false, false, false, false] (any_of HT_.out (by kernel_rfl)) ?_
          refine pureA 7 62 #[true, true, true, true, true, false, true, true, false, false, false, false] (any_of HT_.out (by kernel_rfl)) ?_
          refine pureA 8 63 #[true, true, true, true, true, false, true, true, true, false, false, false] (any_of HT_.out (by kernel_rfl)) ?_
          refine takeA 5 60 #[true, true, true, true, true, true, true, true, true, false, false, false] (take_ofW HT_.out HW_.out (by kernel_rfl)) hHeld ?_
          refine takeA 9 64 #[true, true, true, true, true, true, true, true, true, true, false, false] (take_ofW HT_.out HW_.out (by kernel_rfl)) hHeld ?_
          refine pureA 10 65 #[true, true, true, true, true, true, true, true, true, true, true, false] (any_of HT_.out (by kernel_rfl)) ?_
          refine pureA 11 66 #[true, true, true, true, true, true, true, true, true, true, true, true] (any_of HT_.out (by kernel_rfl)) ?_
          refine done_ (done_of HT_.out (by kernel_rfl)) ?_
          try go_wp2
          go_meet
          case rel => exact ⟨_, (decide (((rd_T60 l4 x51_2).f1) > a2_0)), (by first | rfl | (simp; done) | (simp [*]; done)), H', ⟨by have := HJ5.out; have := HK2.out; first | omega | exact Nat.le_refl _⟩, ⟨qb BK117⟩, ⟨qb BK118⟩, ⟨qb BK119⟩, ⟨qb BK123⟩, ⟨qb BK125⟩, ⟨(qs HB)⟩⟩
         rw [if_neg c75] at H
         have c75b0 : (((rd_T60 l4 x51_2).f0) == 2) = false := beq_eq_false_iff_ne.mpr c75
         have c75b1 : (((rd_T60 l4 x51_2).f0) != 2) = true := bne_iff_ne.mpr c75
         (first | rw [c75b0] | (simp only [i64_w, i32_w]; rw [c75b0]) | skip)
         have H' := Aside0.mk H
         clear H
         try go_wp2
         have n0_ : Aside0 (((((w69.setCell ⟨gb125, 0, none⟩ (.int .i64 ((rd_T60 l4 x51_2).f0))).setCell ⟨gb125, 1, none⟩ (.int .i64 ((rd_T60 l4 x51_2).f1))).setCell ⟨gb125, 2, none⟩ (.int .i64 ((rd_T60 l4 x51_2).f2))).setCell ⟨gb125, 3, none⟩ (.int .i64 ((rd_T60 l4 x51_2).f3))).heap[gb117]? = some (.cells #[.int .i64 a0_0, .int .i64 a0_1, .int .i64 a0_2] 34 (0, 0))) := ⟨qB BK117⟩
         have n1_ : Aside0 (((((w69.setCell ⟨gb125, 0, none⟩ (.int .i64 ((rd_T60 l4 x51_2).f0))).setCell ⟨gb125, 1, none⟩ (.int .i64 ((rd_T60 l4 x51_2).f1))).setCell ⟨gb125, 2, none⟩ (.int .i64 ((rd_T60 l4 x51_2).f2))).setCell ⟨gb125, 3, none⟩ (.int .i64 ((rd_T60 l4 x51_2).f3))).heap[gb118]? = some (.cells #[.int .i64 a2_0, .int .i64 a2_1, .int .i64 a2_2, .int .i64 a2_3, .int .i64 a2_4] 29 (0, 0))) := ⟨qB BK118⟩
         have n2_ : Aside0 (((((w69.setCell ⟨gb125, 0, none⟩ (.int .i64 ((rd_T60 l4 x51_2).f0))).setCell ⟨gb125, 1, none⟩ (.int .i64 ((rd_T60 l4 x51_2).f1))).setCell ⟨gb125, 2, none⟩ (.int .i64 ((rd_T60 l4 x51_2).f2))).setCell ⟨gb125, 3, none⟩ (.int .i64 ((rd_T60 l4 x51_2).f3))).heap[gb119]? = some (.cells #[.bool false, .int .i64 0, .int .i64 0, .int .i64 0, .int .i64 0, .int .i64 0, .slice none 0 0] 32 (0, 0))) := ⟨qB BK119⟩
         have n3_ : Aside0 (((((w69.setCell ⟨gb125, 0, none⟩ (.int .i64 ((rd_T60 l4 x51_2).f0))).setCell ⟨gb125, 1, none⟩ (.int .i64 ((rd_T60 l4 x51_2).f1))).setCell ⟨gb125, 2, none⟩ (.int .i64 ((rd_T60 l4 x51_2).f2))).setCell ⟨gb125, 3, none⟩ (.int .i64 ((rd_T60 l4 x51_2).f3))).heap[gb123]? = some (.cells #[.bool true, .int .i64 a2_0, .int .i64 a2_1, .int .i64 x124003_2, .int .i64 a2_3, .int .i64 x124005_2, .slice none 0 0] 32 (0, 0))) := ⟨qB BK123⟩
         have n4_ : Aside0 (((((w69.setCell ⟨gb125, 0, none⟩ (.int .i64 ((rd_T60 l4 x51_2).f0))).setCell ⟨gb125, 1, none⟩ (.int .i64 ((rd_T60 l4 x51_2).f1))).setCell ⟨gb125, 2, none⟩ (.int .i64 ((rd_T60 l4 x51_2).f2))).setCell ⟨gb125, 3, none⟩ (.int .i64 ((rd_T60 l4 x51_2).f3))).heap[gb125]? = some (.cells #[.int .i64 ((rd_T60 l4 x51_2).f0), .int .i64 ((rd_T60 l4 x51_2).f1), .int .i64 ((rd_T60 l4 x51_2).f2), .int .i64 ((rd_T60 l4 x51_2).f3)] 60 (0, 0))) := ⟨by refine qz ?_; refine blk_put (cs := #[.int .i64 ((rd_T60 l4 x51_2).f0), .int .i64 ((rd_T60 l4 x51_2).f1), .int .i64 ((rd_T60 l4 x51_2).f2), .int .i64 0]) ?_ 3 _ rfl; refine qz ?_; refine blk_put (cs := #[.int .i64 ((rd_T60 l4 x51_2).f0), .int .i64 ((rd_T60 l4 x51_2).f1), .int .i64 0, .int .i64 0]) ?_ 2 _ rfl; refine qz ?_; refine blk_put (cs := #[.int .i64 ((rd_T60 l4 x51_2).f0), .int .i64 0, .int .i64 0, .int .i64 0]) ?_ 1 _ rfl; refine qz ?_; refine blk_put (cs := #[.int .i64 0, .int .i64 0, .int .i64 0, .int .i64 0]) ?_ 0 _ rfl; refine qz ?_; exact BK125.out⟩
         have n5_ : Aside0 (Below w.heap.size w ((((w69.setCell ⟨gb125, 0, none⟩ (.int .i64 ((rd_T60 l4 x51_2).f0))).setCell ⟨gb125, 1, none⟩ (.int .i64 ((rd_T60 l4 x51_2).f1))).setCell ⟨gb125, 2, none⟩ (.int .i64 ((rd_T60 l4 x51_2).f2))).setCell ⟨gb125, 3, none⟩ (.int .i64 ((rd_T60 l4 x51_2).f3)))) := ⟨(qs HB)⟩
         (try clear BK117); (try clear BK118); (try clear BK119); (try clear BK123); (try clear BK125); (try clear HB)
         generalize ((((w69.setCell ⟨gb125, 0, none⟩ (.int .i64 ((rd_T60 l4 x51_2).f0))).setCell ⟨gb125, 1, none⟩ (.int .i64 ((rd_T60 l4 x51_2).f1))).setCell ⟨gb125, 2, none⟩ (.int .i64 ((rd_T60 l4 x51_2).f2))).setCell ⟨gb125, 3, none⟩ (.int .i64 ((rd_T60 l4 x51_2).f3))) = w78 at n0_ n1_ n2_ n3_ n4_ n5_ ⊢
         have BK117 := n0_; have BK118 := n1_; have BK119 := n2_; have BK123 := n3_; have BK125 := n4_; have HB := n5_; clear n0_ n1_ n2_ n3_ n4_ n5_
         replace BK117 := Aside0.mk (blk_drew BK117.out); replace BK118 := Aside0.mk (blk_drew BK118.out); replace BK119 := Aside0.mk (blk_drew BK119.out); replace BK123 := Aside0.mk (blk_drew BK123.out); replace BK125 := Aside0.mk (blk_drew BK125.out); replace HB := Aside0.mk (below_drew1 HB.out)
         refine start_ (n := 12) (S := fun w' => w'.cell? ⟨gb125, 0, none⟩ = some (.int .i64 ((rd_T60 l4 x51_2).f0)) ∧ w'.cell? ⟨gb125, 1, none⟩ = some (.int .i64 ((rd_T60 l4 x51_2).f1)) ∧ w'.cell? ⟨gb125, 2, none⟩ = some (.int .i64 ((rd_T60 l4 x51_2).f2)) ∧ w'.cell? ⟨gb125, 3, none⟩ = some (.int .i64 ((rd_T60 l4 x51_2).f3))) (ds := []) #[false, false, false, false, false, false, false, false, false, false, false, false] (by kernel_rfl) rfl rfl ⟨bc BK125 0, bc BK125 1, bc BK125 2, bc BK125 3⟩ (fun hHeld => ?_); refine with_tabW spec_BoxTick.tab8 spec_BoxTick.bits8 (fun HT_ HW_ => ?_)
         generalize w78.drew = w79 at BK117 BK118 BK119 BK123 BK125 HB hHeld ⊢
         refine pureA 0 55 #[true, false, false, false, false, false, false, false, false, false, false, false] (any_of HT_.out (by kernel_rfl)) ?_
         refine takeA 1 56 #[true, true, false, false, false, false, false, false, false, false, false, false] (take_ofW HT_.out HW_.out (by kernel_rfl)) hHeld ?_
         refine pureA 2 57 #[true, true, true, false, false, false, false, false, false, false, false, false] (any_of HT_.out (by kernel_rfl)) ?_
         refine pureA 3 58 #[true, true, true, true, false, false, false, false, false, false, false, false] (any_of HT_.out (by kernel_rfl)) ?_
         refine pure_ (i := 4) (N := some 59) (v := undef) (a' := ?_) #[true, true, true, true, true, false, false, false, false, false, false, false] rfl rfl (any_of HT_.out (by kernel_rfl)) (fun _ _ _ h => h) (Or.inr ⟨by rfl, rfl⟩) ?_ ?_
         rotate_left
         ·simp only [Act.put, List.setIfInBounds_toArray, List.set_cons_zero, List.set_cons_succ, i64_w, i32_w]
          rfl
         refine pure_ (i := 5) (N := some 60) (v := undef) (a' := ?_) #[true, true, true, true, true, true, false, false, false, false, false, false] rfl rfl (any_of HT_.out (by kernel_rfl)) (fun _ _ _ h => h) (Or.inr ⟨by rfl, rfl⟩) ?_ ?_
         rotate_left
         ·simp only [Act.put, List.setIfInBounds_toArray, List.set_cons_zero, List.set_cons_succ, i64_w, i32_w]
          rfl
         refine pure_ (i := 6) (N := some 61) (v := undef) (a' := ?_) #[true, true, true, true, true, true, true, false, false, false, false, false] rfl rfl (any_of HT_.out (by kernel_rfl)) (fun _ _ _ h => h) (Or.inr ⟨by rfl, rfl⟩) ?_ ?_
         rotate_left
         ·simp only [Act.put, List.setIfInBounds_toArray, List.set_cons_zero, List.set_cons_succ, i64_w, i32_w]
          rfl
         refine pure_ (i := 7) (N := some 62) (v := undef) (a' := ?_) #[true, true, true, true, true, true, true, true, false, false, false, false] rfl rfl (any_of HT_.out (by kernel_rfl)) (fun _ _ _ h => h) (Or.inr ⟨by rfl, rfl⟩) ?_ ?_
         rotate_left
         ·simp only [Act.put, List.setIfInBounds_toArray, List.set_cons_zero, List.set_cons_succ, i64_w, i32_w]
          rfl
         refine pure_ (i := 8) (N := some 63) (v := undef) (a' := ?_) #[true, true, true, true, true, true, true, true, true, false, false, false] rfl rfl (any_of HT_.out (by kernel_rfl)) (fun _ _ _ h => h) (Or.inr ⟨by rfl, rfl⟩) ?_ ?_
         rotate_left
         ·simp only [Act.put, List.setIfInBounds_toArray, List.set_cons_zero, List.set_cons_succ, i64_w, i32_w]
          rfl
         refine pure_ (i := 9) (N := some 64) (v := undef) (a' := ?_) #[true, true, true, true, true, true, true, true, true, true, false, false] rfl rfl (any_of HT_.out (by kernel_rfl)) (fun _ _ _ h => h) (Or.inr ⟨by rfl, rfl⟩) ?_ ?_
         rotate_left
         ·simp only [Act.put, List.setIfInBounds_toArray, List.set_cons_zero, List.set_cons_succ, i64_w, i32_w]
          rfl
         refine pure_ (i := 10) (N := some 65) (v := undef) (a' := ?_) #[true, true, true, true, true, true, true, true, true, true, true, false] rfl rfl (any_of HT_.out (by kernel_rfl)) (fun _ _ _ h => h) (Or.inr ⟨by rfl, rfl⟩) ?_ ?_
         rotate_left
         ·simp only [Act.put, List.setIfInBounds_toArray, List.set_cons_zero, List.set_cons_succ, i64_w, i32_w]
          rfl
         refine pureA 11 66 #[true, true, true, true, true, true, true, true, true, true, true, true] (any_of HT_.out (by kernel_rfl)) ?_
         refine done_ (done_of HT_.out (by kernel_rfl)) ?_
         try go_wp2
         go_meet
         case rel => exact ⟨_, (true), (by first | rfl | (simp; done) | (simp [*]; done)), H', ⟨by have := HJ5.out; have := HK2.out; first | omega | exact Nat.le_refl _⟩, ⟨qb BK117⟩, ⟨qb BK118⟩, ⟨qb BK119⟩, ⟨qb BK123⟩, ⟨qb BK125⟩, ⟨(qs HB)⟩⟩
        case rest =>
         clear HC68
         try clear c1; try clear p1; try clear q1; try clear hx1; try clear c2; try clear p2; try clear c3; try clear c4; try clear c5; try clear c6; try clear p6; try clear c7; try clear c11; try clear c12; try clear p12; try clear q12; try clear hx12; try clear c13; try clear c15; try clear c16; try clear c16b0; try clear c16b1; try clear c17; try clear c18; try clear c21; try clear c25; try clear c26; try clear c29; try clear c34; try clear c35; try clear c38; try clear c42; try clear c43; try clear c46; try clear c49; try clear c50; try clear c53; try clear c54; try clear c55; try clear c57; try clear c58; try clear c61; try clear c62; try clear c63; try clear p64; try clear c65; try clear c65b0; try clear c66; try clear c66b0; try clear c67; try clear c67b0; try clear c70; try clear c71; try clear c72; try clear c73; try clear c75; try clear c75b0; try clear c75b1; try clear hcz19_0; try clear hcz19_1; try clear hcz19_2; try clear hcz22_0; try clear hcz22_1; try clear hcz22_2; try clear hcz22_3; try clear hcz22_4; try clear hcz27_0; try clear hcz27_1; try clear hcz27_2; try clear hcz30_0; try clear hcz30_1; try clear hcz30_2; try clear hcz30_3; try clear hcz30_4; try clear hcz33_0; try clear hcz33_1; try clear hcz33_2; try clear hcz33_3; try clear hcz33_4; try clear hcz36_0; try clear hcz36_1; try clear hcz36_2; try clear hcz39_0; try clear hcz39_1; try clear hcz39_2; try clear hcz39_3; try clear hcz39_4; try clear hcz44_0; try clear hcz44_1; try clear hcz44_2; try clear hcz47_0; try clear hcz47_1; try clear hcz47_2; try clear hcz47_3; try clear hcz47_4; try clear hcz51_0; try clear hcz51_1; try clear hcz51_2; try clear hcz56_0; try clear hcz56_1; try clear hcz56_2; try clear hcz56_3; try clear hcz56_4; try clear hcz56_5; try clear hcz56_6; try clear hcz59_0; try clear hcz59_1; try clear hcz59_2; try clear hcz59_3; try clear hcz59_4; try clear hcz64_0; try clear hcz64_1; try clear hcz64_2; try clear hcz64_3; try clear hcz64_4; try clear hcz64_5; try clear hcz64_6; try clear hcz74_0; try clear hcz74_1; try clear hcz74_2; try clear hcz74_3; try clear hfz19_0; try clear hfz19_1; try clear hfz19_2; try clear hfz22_0; try clear hfz22_1; try clear hfz22_2; try clear hfz22_3; try clear hfz22_4; try clear hfz27_0; try clear hfz27_1; try clear hfz27_2; try clear hfz30_0; try clear hfz30_1; try clear hfz30_2; try clear hfz30_3; try clear hfz30_4; try clear hfz33_0; try clear hfz33_1; try clear hfz33_2; try clear hfz33_3; try clear hfz33_4; try clear hfz36_0; try clear hfz36_1; try clear hfz36_2; try clear hfz39_0; try clear hfz39_1; try clear hfz39_2; try clear hfz39_3; try clear hfz39_4; try clear hfz44_0; try clear hfz44_1; try clear hfz44_2; try clear hfz47_0; try clear hfz47_1; try clear hfz47_2; try clear hfz47_3; try clear hfz47_4; try clear hfz51_0; try clear hfz51_1; try clear hfz51_2; try clear hfz56_0; try clear hfz56_1; try clear hfz56_2; try clear hfz56_3; try clear hfz56_4; try clear hfz56_5; try clear hfz56_6; try clear hfz59_0; try clear hfz59_1; try clear hfz59_2; try clear hfz59_3; try clear hfz59_4; try clear hfz64_0; try clear hfz64_1; try clear hfz64_2; try clear hfz64_3; try clear hfz64_4; try clear hfz64_5; try clear hfz64_6; try clear hfz74_0; try clear hfz74_1; try clear hfz74_2; try clear hfz74_3; try clear hx124_0; try clear hx124_1; try clear hx124_2; try clear hx124_3; try clear p124; try clear p2; try clear p6; try clear p64; try clear q124
         obtain ⟨kq, x66_67, rfl, HA, HJ67, BK117, BK118, BK119, BK123, BK125, HB⟩ := hcut
         cases kq with
         | zero => exact absurd HA.out (by simp [spec_BoxTick.j2])
         | succ kj67 =>
          have H := HA.out
          clear HA
          simp only [spec_BoxTick.j2] at H
          by_cases c80 : x66_67 = true
          ·subst c80
           have H1 : (spec_BoxTick.l0 kj67 a1 l3 l4 (l4.length : Int) (wrap64 (x51_2 + 1)) a0_0 a0_1 a0_2 true a2_0 a2_1 x124003_2 a2_3 x124005_2) = some (r1, r2, r3, r4, r5, r6, r7) := by rw [if_pos rfl] at H; exact H
           clear H; have H := H1; clear H1
           have H' := Aside0.mk H
           clear H
           go_wp2
           go_roundg kj67
           case measure => have := HJ5.out; have := HK2.out; have := HJ67.out; omega
           case rel => exact ⟨(wrap64 (x51_2 + 1)), (x124003_2), (x124005_2), (by first | rfl | (simp; done) | (simp [*]; done)), H', ⟨by have := HJ5.out; have := HK2.out; have := HJ67.out; omega⟩, ⟨qb BK117⟩, ⟨qb BK118⟩, ⟨qb BK119⟩, ⟨qb BK123⟩, ⟨(qs HB)⟩⟩
          replace c80 := Bool.eq_false_iff.mpr c80
          subst c80
          have H1 : (if ((rd_T60 l4 x51_2).f1) > x124003_2 then (if ((rd_T60 l4 x51_2).f3) > x124005_2 then (spec_BoxTick.l0 kj67 a1 l3 l4 (l4.length : Int) (wrap64 (x51_2 + 1)) a0_0 a0_1 a0_2 true a2_0 a2_1 ((rd_T60 l4 x51_2).f1) a2_3 ((rd_T60 l4 x51_2).f3)) else (spec_BoxTick.l0 kj67 a1 l3 l4 (l4.length : Int) (wrap64 (x51_2 + 1)) a0_0 a0_1 a0_2 true a2_0 a2_1 ((rd_T60 l4 x51_2).f1) a2_3 x124005_2)) else (if ((rd_T60 l4 x51_2).f3) > x124005_2 then (spec_BoxTick.l0 kj67 a1 l3 l4 (l4.length : Int) (wrap64 (x51_2 + 1)) a0_0 a0_1 a0_2 true a2_0 a2_1 x124003_2 a2_3 ((rd_T60 l4 x51_2).f3)) else (spec_BoxTick.l0 kj67 a1 l3 l4 (l4.length : Int) (wrap64 (x51_2 + 1)) a0_0 a0_1 a0_2 true a2_0 a2_1 x124003_2 a2_3 x124005_2))) = some (r1, r2, r3, r4, r5, r6, r7) := by rw [if_neg (show ¬ (false = true) by decide)] at H; exact H
          clear H; have H := H1; clear H1
          by_cases c81 : ((rd_T60 l4 x51_2).f1) > x124003_2
          ·rw [if_pos c81] at H
           have c81b0 : decide (x124003_2 < ((rd_T60 l4 x51_2).f1)) = true := decide_eq_true c81
           clear c81
           by_cases c82 : ((rd_T60 l4 x51_2).f3) > x124005_2
           ·rw [if_pos c82] at H
            have c82b0 : decide (x124005_2 < ((rd_T60 l4 x51_2).f3)) = true := decide_eq_true c82
            clear c82
            have H' := Aside0.mk H
            clear H
            try go_wp2
            replace BK117 := Aside0.mk (blk_drew BK117.out); replace BK118 := Aside0.mk (blk_drew BK118.out); replace BK119 := Aside0.mk (blk_drew BK119.out); replace BK123 := Aside0.mk (blk_drew BK123.out); replace BK125 := Aside0.mk (blk_drew BK125.out); replace HB := Aside0.mk (below_drew1 HB.out)
            refine start_ (n := 7) (S := fun w' => w'.cell? ⟨gb125, 0, none⟩ = some (.int .i64 ((rd_T60 l4 x51_2).f0)) ∧ w'.cell? ⟨gb125, 1, none⟩ = some (.int .i64 ((rd_T60 l4 x51_2).f1)) ∧ w'.cell? ⟨gb125, 2, none⟩ = some (.int .i64 ((rd_T60 l4 x51_2).f2)) ∧ w'.cell? ⟨gb125, 3, none⟩ = some (.int .i64 ((rd_T60 l4 x51_2).f3)) ∧ w'.cell? ⟨gb123, 0, none⟩ = some (.bool true) ∧ w'.cell? ⟨gb123, 1, none⟩ = some (.int .i64 a2_0) ∧ w'.cell? ⟨gb123, 2, none⟩ = some (.int .i64 a2_1) ∧ w'.cell? ⟨gb123, 3, none⟩ = some (.int .i64 x124003_2) ∧ w'.cell? ⟨gb123, 4, none⟩ = some (.int .i64 a2_3) ∧ w'.cell? ⟨gb123, 5, none⟩ = some (.int .i64 x124005_2) ∧ w'.cell? ⟨gb123, 6, none⟩ = some (.slice none 0 0)) (ds := []) #[false, false, false, false, false, false, false] (by kernel_rfl) rfl rfl ⟨bc BK125 0, bc BK125 1, bc BK125 2, bc BK125 3, bc BK123 0, bc BK123 1, bc BK123 2, bc BK123 3, bc BK123 4, bc BK123 5, bc BK123 6⟩ (fun hHeld => ?_)
            generalize wc.drew = w83 at BK117 BK118 BK119 BK123 BK125 HB hHeld ⊢
            refine pureA 0 67 #[true, false, false, false, false, false, false] (by kernel_rfl) ?_
            refine pureA 2 69 #[true, false, true, false, false, false, false] (by kernel_rfl) ?_
            refine pureA 3 70 #[true, false, true, true, false, false, false] (by kernel_rfl) ?_
            refine pureA 4 71 #[true, false, true, true, true, false, false] (by kernel_rfl) ?_
            refine takeA 1 68 #[true, true, true, true, true, false, false] (by kernel_rfl) hHeld ?_
            refine takeA 5 72 #[true, true, true, true, true, true, false] (by kernel_rfl) hHeld ?_
            refine pureA 6 73 #[true, true, true, true, true, true, true] (by kernel_rfl) ?_
            refine done_ (by kernel_rfl) ?_
            have hnb84 := NB125_117.out
            have hnc84 := NB117_125.out
            have hnb85 := NB125_118.out
            have hnc85 := NB118_125.out
            have hnb86 := NB125_119.out
            have hnc86 := NB119_125.out
            have hnb87 := NB125_123.out
            have hnc87 := NB123_125.out
            have hcz88_0 := b0 BK125
            have hcz88_1 := b1 BK125
            have hcz88_2 := b2 BK125
            have hcz88_3 := b3 BK125
            have hfz88_0 := blk_frozen BK125.out 0
            have hfz88_1 := blk_frozen BK125.out 1
            have hfz88_2 := blk_frozen BK125.out 2
            have hfz88_3 := blk_frozen BK125.out 3
            have hnb89 := NB123_117.out
            have hnc89 := NB117_123.out
            have hnb90 := NB123_118.out
            have hnc90 := NB118_123.out
            have hnb91 := NB123_119.out
            have hnc91 := NB119_123.out
            have hcz92_0 := b0 BK123
            have hcz92_1 := b1 BK123
            have hcz92_2 := b2 BK123
            have hcz92_3 := b3 BK123
            have hcz92_4 := b4 BK123
            have hcz92_5 := b5 BK123
            have hcz92_6 := b6 BK123
            have hfz92_0 := blk_frozen BK123.out 0
            have hfz92_1 := blk_frozen BK123.out 1
            have hfz92_2 := blk_frozen BK123.out 2
            have hfz92_3 := blk_frozen BK123.out 3
            have hfz92_4 := blk_frozen BK123.out 4
            have hfz92_5 := blk_frozen BK123.out 5
            have hfz92_6 := blk_frozen BK123.out 6
            try go_wp2
            have n0_ : Aside0 ((w83.setCell ⟨gb123, 3, none⟩ (.int .i64 ((rd_T60 l4 x51_2).f1))).heap[gb117]? = some (.cells #[.int .i64 a0_0, .int .i64 a0_1, .int .i64 a0_2] 34 (0, 0))) := ⟨qB BK117⟩
            have n1_ : Aside0 ((w83.setCell ⟨gb123, 3, none⟩ (.int .i64 ((rd_T60 l4 x51_2).f1))).heap[gb118]? = some (.cells #[.int .i64 a2_0, .int .i64 a2_1, .int .i64 a2_2, .int .i64 a2_3, .int .i64 a2_4] 29 (0, 0))) := ⟨qB BK118⟩
            have n2_ : Aside0 ((w83.setCell ⟨gb123, 3, none⟩ (.int .i64 ((rd_T60 l4 x51_2).f1))).heap[gb119]? = some (.cells #[.bool false, .int .i64 0, .int .i64 0, .int .i64 0, .int .i64 0, .int .i64 0, .slice none 0 0] 32 (0, 0))) := ⟨qB BK119⟩
            have n3_ : Aside0 ((w83.setCell ⟨gb123, 3, none⟩ (.int .i64 ((rd_T60 l4 x51_2).f1))).heap[gb123]? = some (.cells #[.bool true, .int .i64 a2_0, .int .i64 a2_1, .int .i64 ((rd_T60 l4 x51_2).f1), .int .i64 a2_3, .int .i64 x124005_2, .slice none 0 0] 32 (0, 0))) := ⟨by refine qz ?_; refine blk_put (cs := #[.bool true, .int .i64 a2_0, .int .i64 a2_1, .int .i64 x124003_2, .int .i64 a2_3, .int .i64 x124005_2, .slice none 0 0]) ?_ 3 _ rfl; refine qz ?_; exact BK123.out⟩
            have n4_ : Aside0 ((w83.setCell ⟨gb123, 3, none⟩ (.int .i64 ((rd_T60 l4 x51_2).f1))).heap[gb125]? = some (.cells #[.int .i64 ((rd_T60 l4 x51_2).f0), .int .i64 ((rd_T60 l4 x51_2).f1), .int .i64 ((rd_T60 l4 x51_2).f2), .int .i64 ((rd_T60 l4 x51_2).f3)] 60 (0, 0))) := ⟨qB BK125⟩
            have n5_ : Aside0 (Below w.heap.size w (w83.setCell ⟨gb123, 3, none⟩ (.int .i64 ((rd_T60 l4 x51_2).f1)))) := ⟨(qs HB)⟩
            (try clear BK117); (try clear BK118); (try clear BK119); (try clear BK123); (try clear BK125); (try clear HB)
            generalize (w83.setCell ⟨gb123, 3, none⟩ (.int .i64 ((rd_T60 l4 x51_2).f1))) = w93 at n0_ n1_ n2_ n3_ n4_ n5_ ⊢
            have BK117 := n0_; have BK118 := n1_; have BK119 := n2_; have BK123 := n3_; have BK125 := n4_; have HB := n5_; clear n0_ n1_ n2_ n3_ n4_ n5_
            replace BK117 := Aside0.mk (blk_drew BK117.out); replace BK118 := Aside0.mk (blk_drew BK118.out); replace BK119 := Aside0.mk (blk_drew BK119.out); replace BK123 := Aside0.mk (blk_drew BK123.out); replace BK125 := Aside0.mk (blk_drew BK125.out); replace HB := Aside0.mk (below_drew1 HB.out)
            refine start_ (n := 7) (S := fun w' => w'.cell? ⟨gb125, 0, none⟩ = some (.int .i64 ((rd_T60 l4 x51_2).f0)) ∧ w'.cell? ⟨gb125, 1, none⟩ = some (.int .i64 ((rd_T60 l4 x51_2).f1)) ∧ w'.cell? ⟨gb125, 2, none⟩ = some (.int .i64 ((rd_T60 l4 x51_2).f2)) ∧ w'.cell? ⟨gb125, 3, none⟩ = some (.int .i64 ((rd_T60 l4 x51_2).f3)) ∧ w'.cell? ⟨gb123, 0, none⟩ = some (.bool true) ∧ w'.cell? ⟨gb123, 1, none⟩ = some (.int .i64 a2_0) ∧ w'.cell? ⟨gb123, 2, none⟩ = some (.int .i64 a2_1) ∧ w'.cell? ⟨gb123, 3, none⟩ = some (.int .i64 ((rd_T60 l4 x51_2).f1)) ∧ w'.cell? ⟨gb123, 4, none⟩ = some (.int .i64 a2_3) ∧ w'.cell? ⟨gb123, 5, none⟩ = some (.int .i64 x124005_2) ∧ w'.cell? ⟨gb123, 6, none⟩ = some (.slice none 0 0)) (ds := []) #[false, false, false, false, false, false, false] (by kernel_rfl) rfl rfl ⟨bc BK125 0, bc BK125 1, bc BK125 2, bc BK125 3, bc BK123 0, bc BK123 1, bc BK123 2, bc BK123 3, bc BK123 4, bc BK123 5, bc BK123 6⟩ (fun hHeld => ?_)
            generalize w93.drew = w94 at BK117 BK118 BK119 BK123 BK125 HB hHeld ⊢
            refine pureA 0 79 #[true, false, false, false, false, false, false] (by kernel_rfl) ?_
            refine pureA 2 81 #[true, false, true, false, false, false, false] (by kernel_rfl) ?_
            refine pureA 3 82 #[true, false, true, true, false, false, false] (by kernel_rfl) ?_
            refine pureA 4 83 #[true, false, true, true, true, false, false] (by kernel_rfl) ?_
            refine takeA 1 80 #[true, true, true, true, true, false, false] (by kernel_rfl) hHeld ?_
            refine takeA 5 84 #[true, true, true, true, true, true, false] (by kernel_rfl) hHeld ?_
            refine pureA 6 85 #[true, true, true, true, true, true, true] (by kernel_rfl) ?_
            refine done_ (by kernel_rfl) ?_
            have hcz95_0 := b0 BK125
            have hcz95_1 := b1 BK125
            have hcz95_2 := b2 BK125
            have hcz95_3 := b3 BK125
            have hfz95_0 := blk_frozen BK125.out 0
            have hfz95_1 := blk_frozen BK125.out 1
            have hfz95_2 := blk_frozen BK125.out 2
            have hfz95_3 := blk_frozen BK125.out 3
            have hcz96_0 := b0 BK123
            have hcz96_1 := b1 BK123
            have hcz96_2 := b2 BK123
            have hcz96_3 := b3 BK123
            have hcz96_4 := b4 BK123
            have hcz96_5 := b5 BK123
            have hcz96_6 := b6 BK123
            have hfz96_0 := blk_frozen BK123.out 0
            have hfz96_1 := blk_frozen BK123.out 1
            have hfz96_2 := blk_frozen BK123.out 2
            have hfz96_3 := blk_frozen BK123.out 3
            have hfz96_4 := blk_frozen BK123.out 4
            have hfz96_5 := blk_frozen BK123.out 5
            have hfz96_6 := blk_frozen BK123.out 6
            try go_wp2
            go_roundg kj67
            case measure => have := HJ5.out; have := HK2.out; have := HJ67.out; omega
            case rel => exact ⟨(wrap64 (x51_2 + 1)), (((rd_T60 l4 x51_2).f1)), (((rd_T60 l4 x51_2).f3)), (by first | rfl | (simp; done) | (simp [*]; done)), H', ⟨by have := HJ5.out; have := HK2.out; have := HJ67.out; omega⟩, ⟨qB BK117⟩, ⟨qB BK118⟩, ⟨qB BK119⟩, ⟨by refine qz ?_; refine blk_put (cs := #[.bool true, .int .i64 a2_0, .int .i64 a2_1, .int .i64 ((rd_T60 l4 x51_2).f1), .int .i64 a2_3, .int .i64 x124005_2, .slice none 0 0]) ?_ 5 _ rfl; refine qz ?_; exact BK123.out⟩, ⟨(qs HB)⟩⟩
           rw [if_neg c82] at H
           have c82b0 : decide (x124005_2 < ((rd_T60 l4 x51_2).f3)) = false := decide_eq_false c82
           clear c82
           have H' := Aside0.mk H
           clear H
           try go_wp2
           replace BK117 := Aside0.mk (blk_drew BK117.out); replace BK118 := Aside0.mk (blk_drew BK118.out); replace BK119 := Aside0.mk (blk_drew BK119.out); replace BK123 := Aside0.mk (blk_drew BK123.out); replace BK125 := Aside0.mk (blk_drew BK125.out); replace HB := Aside0.mk (below_drew1 HB.out)
           refine start_ (n := 7) (S := fun w' => w'.cell? ⟨gb125, 0, none⟩ = some (.int .i64 ((rd_T60 l4 x51_2).f0)) ∧ w'.cell? ⟨gb125, 1, none⟩ = some (.int .i64 ((rd_T60 l4 x51_2).f1)) ∧ w'.cell? ⟨gb125, 2, none⟩ = some (.int .i64 ((rd_T60 l4 x51_2).f2)) ∧ w'.cell? ⟨gb125, 3, none⟩ = some (.int .i64 ((rd_T60 l4 x51_2).f3)) ∧ w'.cell? ⟨gb123, 0, none⟩ = some (.bool true) ∧ w'.cell? ⟨gb123, 1, none⟩ = some (.int .i64 a2_0) ∧ w'.cell? ⟨gb123, 2, none⟩ = some (.int .i64 a2_1) ∧ w'.cell? ⟨gb123, 3, none⟩ = some (.int .i64 x124003_2) ∧ w'.cell? ⟨gb123, 4, none⟩ = some (.int .i64 a2_3) ∧ w'.cell? ⟨gb123, 5, none⟩ = some (.int .i64 x124005_2) ∧ w'.cell? ⟨gb123, 6, none⟩ = some (.slice none 0 0)) (ds := []) #[false, false, false, false, false, false, false] (by kernel_rfl) rfl rfl ⟨bc BK125 0, bc BK125 1, bc BK125 2, bc BK125 3, bc BK123 0, bc BK123 1, bc BK123 2, bc BK123 3, bc BK123 4, bc BK123 5, bc BK123 6⟩ (fun hHeld => ?_)
           generalize wc.drew = w97 at BK117 BK118 BK119 BK123 BK125 HB hHeld ⊢
           refine pureA 0 67 #[true, false, false, false, false, false, false] (by kernel_rfl) ?_
           refine pureA 2 69 #[true, false, true, false, false, false, false] (by kernel_rfl) ?_
           refine pureA 3 70 #[true, false, true, true, false, false, false] (by kernel_rfl) ?_
           refine pureA 4 71 #[true, false, true, true, true, false, false] (by kernel_rfl) ?_
           refine takeA 1 68 #[true, true, true, true, true, false, false] (by kernel_rfl) hHeld ?_
           refine takeA 5 72 #[true, true, true, true, true, true, false] (by kernel_rfl) hHeld ?_
           refine pureA 6 73 #[true, true, true, true, true, true, true] (by kernel_rfl) ?_
           refine done_ (by kernel_rfl) ?_
           have hnb98 := NB125_117.out
           have hnc98 := NB117_125.out
           have hnb99 := NB125_118.out
           have hnc99 := NB118_125.out
           have hnb100 := NB125_119.out
           have hnc100 := NB119_125.out
           have hnb101 := NB125_123.out
           have hnc101 := NB123_125.out
           have hcz102_0 := b0 BK125
           have hcz102_1 := b1 BK125
           have hcz102_2 := b2 BK125
           have hcz102_3 := b3 BK125
           have hfz102_0 := blk_frozen BK125.out 0
           have hfz102_1 := blk_frozen BK125.out 1
           have hfz102_2 := blk_frozen BK125.out 2
           have hfz102_3 := blk_frozen BK125.out 3
           have hnb103 := NB123_117.out
           have hnc103 := NB117_123.out
           have hnb104 := NB123_118.out
           have hnc104 := NB118_123.out
           have hnb105 := NB123_119.out
           have hnc105 := NB119_123.out
           have hcz106_0 := b0 BK123
           have hcz106_1 := b1 BK123
           have hcz106_2 := b2 BK123
           have hcz106_3 := b3 BK123
           have hcz106_4 := b4 BK123
           have hcz106_5 := b5 BK123
           have hcz106_6 := b6 BK123
           have hfz106_0 := blk_frozen BK123.out 0
           have hfz106_1 := blk_frozen BK123.out 1
           have hfz106_2 := blk_frozen BK123.out 2
           have hfz106_3 := blk_frozen BK123.out 3
           have hfz106_4 := blk_frozen BK123.out 4
           have hfz106_5 := blk_frozen BK123.out 5
           have hfz106_6 := blk_frozen BK123.out 6
           try go_wp2
           have n0_ : Aside0 ((w97.setCell ⟨gb123, 3, none⟩ (.int .i64 ((rd_T60 l4 x51_2).f1))).heap[gb117]? = some (.cells #[.int .i64 a0_0, .int .i64 a0_1, .int .i64 a0_2] 34 (0, 0))) := ⟨qB BK117⟩
           have n1_ : Aside0 ((w97.setCell ⟨gb123, 3, none⟩ (.int .i64 ((rd_T60 l4 x51_2).f1))).heap[gb118]? = some (.cells #[.int .i64 a2_0, .int .i64 a2_1, .int .i64 a2_2, .int .i64 a2_3, .int .i64 a2_4] 29 (0, 0))) := ⟨qB BK118⟩
           have n2_ : Aside0 ((w97.setCell ⟨gb123, 3, none⟩ (.int .i64 ((rd_T60 l4 x51_2).f1))).heap[gb119]? = some (.cells #[.bool false, .int .i64 0, .int .i64 0, .int .i64 0, .int .i64 0, .int .i64 0, .slice none 0 0] 32 (0, 0))) := ⟨qB BK119⟩
           have n3_ : Aside0 ((w97.setCell ⟨gb123, 3, none⟩ (.int .i64 ((rd_T60 l4 x51_2).f1))).heap[gb123]? = some (.cells #[.bool true, .int .i64 a2_0, .int .i64 a2_1, .int .i64 ((rd_T60 l4 x51_2).f1), .int .i64 a2_3, .int .i64 x124005_2, .slice none 0 0] 32 (0, 0))) := ⟨by refine qz ?_; refine blk_put (cs := #[.bool true, .int .i64 a2_0, .int .i64 a2_1, .int .i64 x124003_2, .int .i64 a2_3, .int .i64 x124005_2, .slice none 0 0]) ?_ 3 _ rfl; refine qz ?_; exact BK123.out⟩
           have n4_ : Aside0 ((w97.setCell ⟨gb123, 3, none⟩ (.int .i64 ((rd_T60 l4 x51_2).f1))).heap[gb125]? = some (.cells #[.int .i64 ((rd_T60 l4 x51_2).f0), .int .i64 ((rd_T60 l4 x51_2).f1), .int .i64 ((rd_T60 l4 x51_2).f2), .int .i64 ((rd_T60 l4 x51_2).f3)] 60 (0, 0))) := ⟨qB BK125⟩
           have n5_ : Aside0 (Below w.heap.size w (w97.setCell ⟨gb123, 3, none⟩ (.int .i64 ((rd_T60 l4 x51_2).f1)))) := ⟨(qs HB)⟩
           (try clear BK117); (try clear BK118); (try clear BK119); (try clear BK123); (try clear BK125); (try clear HB)
           generalize (w97.setCell ⟨gb123, 3, none⟩ (.int .i64 ((rd_T60 l4 x51_2).f1))) = w107 at n0_ n1_ n2_ n3_ n4_ n5_ ⊢
           have BK117 := n0_; have BK118 := n1_; have BK119 := n2_; have BK123 := n3_; have BK125 := n4_; have HB := n5_; clear n0_ n1_ n2_ n3_ n4_ n5_
           replace BK117 := Aside0.mk (blk_drew BK117.out); replace BK118 := Aside0.mk (blk_drew BK118.out); replace BK119 := Aside0.mk (blk_drew BK119.out); replace BK123 := Aside0.mk (blk_drew BK123.out); replace BK125 := Aside0.mk (blk_drew BK125.out); replace HB := Aside0.mk (below_drew1 HB.out)
           refine start_ (n := 7) (S := fun w' => w'.cell? ⟨gb125, 0, none⟩ = some (.int .i64 ((rd_T60 l4 x51_2).f0)) ∧ w'.cell? ⟨gb125, 1, none⟩ = some (.int .i64 ((rd_T60 l4 x51_2).f1)) ∧ w'.cell? ⟨gb125, 2, none⟩ = some (.int .i64 ((rd_T60 l4 x51_2).f2)) ∧ w'.cell? ⟨gb125, 3, none⟩ = some (.int .i64 ((rd_T60 l4 x51_2).f3)) ∧ w'.cell? ⟨gb123, 0, none⟩ = some (.bool true) ∧ w'.cell? ⟨gb123, 1, none⟩ = some (.int .i64 a2_0) ∧ w'.cell? ⟨gb123, 2, none⟩ = some (.int .i64 a2_1) ∧ w'.cell? ⟨gb123, 3, none⟩ = some (.int .i64 ((rd_T60 l4 x51_2).f1)) ∧ w'.cell? ⟨gb123, 4, none⟩ = some (.int .i64 a2_3) ∧ w'.cell? ⟨gb123, 5, none⟩ = some (.int .i64 x124005_2) ∧ w'.cell? ⟨gb123, 6, none⟩ = some (.slice none 0 0)) (ds := []) #[false, false, false, false, false, false, false] (by kernel_rfl) rfl rfl ⟨bc BK125 0, bc BK125 1, bc BK125 2, bc BK125 3, bc BK123 0, bc BK123 1, bc BK123 2, bc BK123 3, bc BK123 4, bc BK123 5, bc BK123 6⟩ (fun hHeld => ?_)
           generalize w107.drew = w108 at BK117 BK118 BK119 BK123 BK125 HB hHeld ⊢
           refine pureA 0 79 #[true, false, false, false, false, false, false] (by kernel_rfl) ?_
           refine pureA 2 81 #[true, false, true, false, false, false, false] (by kernel_rfl) ?_
           refine pureA 3 82 #[true, false, true, true, false, false, false] (by kernel_rfl) ?_
           refine pureA 4 83 #[true, false, true, true, true, false, false] (by kernel_rfl) ?_
           refine takeA 1 80 #[true, true, true, true, true, false, false] (by kernel_rfl) hHeld ?_
           refine takeA 5 84 #[true, true, true, true, true, true, false] (by kernel_rfl) hHeld ?_
           refine pureA 6 85 #[true, true, true, true, true, true, true] (by kernel_rfl) ?_
           refine done_ (by kernel_rfl) ?_
           try go_wp2
           go_roundg kj67
           case measure => have := HJ5.out; have := HK2.out; have := HJ67.out; omega
           case rel => exact ⟨(wrap64 (x51_2 + 1)), (((rd_T60 l4 x51_2).f1)), (x124005_2), (by first | rfl | (simp; done) | (simp [*]; done)), H', ⟨by have := HJ5.out; have := HK2.out; have := HJ67.out; omega⟩, ⟨qb BK117⟩, ⟨qb BK118⟩, ⟨qb BK119⟩, ⟨qb BK123⟩, ⟨(qs HB)⟩⟩
          rw [if_neg c81] at H
          have c81b0 : decide (x124003_2 < ((rd_T60 l4 x51_2).f1)) = false := decide_eq_false c81
          clear c81
          by_cases c109 : ((rd_T60 l4 x51_2).f3) > x124005_2
          ·rw [if_pos c109] at H
           have c109b0 : decide (x124005_2 < ((rd_T60 l4 x51_2).f3)) = true := decide_eq_true c109
           clear c109
           have H' := Aside0.mk H
           clear H
           try go_wp2
           replace BK117 := Aside0.mk (blk_drew BK117.out); replace BK118 := Aside0.mk (blk_drew BK118.out); replace BK119 := Aside0.mk (blk_drew BK119.out); replace BK123 := Aside0.mk (blk_drew BK123.out); replace BK125 := Aside0.mk (blk_drew BK125.out); replace HB := Aside0.mk (below_drew1 HB.out)
           refine start_ (n := 7) (S := fun w' => w'.cell? ⟨gb125, 0, none⟩ = some (.int .i64 ((rd_T60 l4 x51_2).f0)) ∧ w'.cell? ⟨gb125, 1, none⟩ = some (.int .i64 ((rd_T60 l4 x51_2).f1)) ∧ w'.cell? ⟨gb125, 2, none⟩ = some (.int .i64 ((rd_T60 l4 x51_2).f2)) ∧ w'.cell? ⟨gb125, 3, none⟩ = some (.int .i64 ((rd_T60 l4 x51_2).f3)) ∧ w'.cell? ⟨gb123, 0, none⟩ = some (.bool true) ∧ w'.cell? ⟨gb123, 1, none⟩ = some (.int .i64 a2_0) ∧ w'.cell? ⟨gb123, 2, none⟩ = some (.int .i64 a2_1) ∧ w'.cell? ⟨gb123, 3, none⟩ = some (.int .i64 x124003_2) ∧ w'.cell? ⟨gb123, 4, none⟩ = some (.int .i64 a2_3) ∧ w'.cell? ⟨gb123, 5, none⟩ = some (.int .i64 x124005_2) ∧ w'.cell? ⟨gb123, 6, none⟩ = some (.slice none 0 0)) (ds := []) #[false, false, false, false, false, false, false] (by kernel_rfl) rfl rfl ⟨bc BK125 0, bc BK125 1, bc BK125 2, bc BK125 3, bc BK123 0, bc BK123 1, bc BK123 2, bc BK123 3, bc BK123 4, bc BK123 5, bc BK123 6⟩ (fun hHeld => ?_)
           generalize wc.drew = w110 at BK117 BK118 BK119 BK123 BK125 HB hHeld ⊢
           refine pureA 0 67 #[true, false, false, false, false, false, false] (by kernel_rfl) ?_
           refine pureA 2 69 #[true, false, true, false, false, false, false] (by kernel_rfl) ?_
           refine pureA 3 70 #[true, false, true, true, false, false, false] (by kernel_rfl) ?_
           refine pureA 4 71 #[true, false, true, true, true, false, false] (by kernel_rfl) ?_
           refine takeA 1 68 #[true, true, true, true, true, false, false] (by kernel_rfl) hHeld ?_
           refine takeA 5 72 #[true, true, true, true, true, true, false] (by kernel_rfl) hHeld ?_
           refine pureA 6 73 #[true, true, true, true, true, true, true] (by kernel_rfl) ?_
           refine done_ (by kernel_rfl) ?_
           try go_wp2
           replace BK117 := Aside0.mk (blk_drew BK117.out); replace BK118 := Aside0.mk (blk_drew BK118.out); replace BK119 := Aside0.mk (blk_drew BK119.out); replace BK123 := Aside0.mk (blk_drew BK123.out); replace BK125 := Aside0.mk (blk_drew BK125.out); replace HB := Aside0.mk (below_drew1 HB.out)
           refine start_ (n := 7) (S := fun w' => w'.cell? ⟨gb125, 0, none⟩ = some (.int .i64 ((rd_T60 l4 x51_2).f0)) ∧ w'.cell? ⟨gb125, 1, none⟩ = some (.int .i64 ((rd_T60 l4 x51_2).f1)) ∧ w'.cell? ⟨gb125, 2, none⟩ = some (.int .i64 ((rd_T60 l4 x51_2).f2)) ∧ w'.cell? ⟨gb125, 3, none⟩ = some (.int .i64 ((rd_T60 l4 x51_2).f3)) ∧ w'.cell? ⟨gb123, 0, none⟩ = some (.bool true) ∧ w'.cell? ⟨gb123, 1, none⟩ = some (.int .i64 a2_0) ∧ w'.cell? ⟨gb123, 2, none⟩ = some (.int .i64 a2_1) ∧ w'.cell? ⟨gb123, 3, none⟩ = some (.int .i64 x124003_2) ∧ w'.cell? ⟨gb123, 4, none⟩ = some (.int .i64 a2_3) ∧ w'.cell? ⟨gb123, 5, none⟩ = some (.int .i64 x124005_2) ∧ w'.cell? ⟨gb123, 6, none⟩ = some (.slice none 0 0)) (ds := []) #[false, false, false, false, false, false, false] (by kernel_rfl) rfl rfl ⟨bc BK125 0, bc BK125 1, bc BK125 2, bc BK125 3, bc BK123 0, bc BK123 1, bc BK123 2, bc BK123 3, bc BK123 4, bc BK123 5, bc BK123 6⟩ (fun hHeld => ?_)
           generalize w110.drew = w111 at BK117 BK118 BK119 BK123 BK125 HB hHeld ⊢
           refine pureA 0 79 #[true, false, false, false, false, false, false] (by kernel_rfl) ?_
           refine pureA 2 81 #[true, false, true, false, false, false, false] (by kernel_rfl) ?_
           refine pureA 3 82 #[true, false, true, true, false, false, false] (by kernel_rfl) ?_
           refine pureA 4 83 #[true, false, true, true, true, false, false] (by kernel_rfl) ?_
           refine takeA 1 80 #[true, true, true, true, true, false, false] (by kernel_rfl) hHeld ?_
           refine takeA 5 84 #[true, true, true, true, true, true, false] (by kernel_rfl) hHeld ?_
           refine pureA 6 85 #[true, true, true, true, true, true, true] (by kernel_rfl) ?_
           refine done_ (by kernel_rfl) ?_
           have hnb112 := NB125_117.out
           have hnc112 := NB117_125.out
           have hnb113 := NB125_118.out
           have hnc113 := NB118_125.out
           have hnb114 := NB125_119.out
           have hnc114 := NB119_125.out
           have hnb115 := NB125_123.out
           have hnc115 := NB123_125.out
           have hcz116_0 := b0 BK125
           have hcz116_1 := b1 BK125
           have hcz116_2 := b2 BK125
           have hcz116_3 := b3 BK125
           have hfz116_0 := blk_frozen BK125.out 0
           have hfz116_1 := blk_frozen BK125.out 1
           have hfz116_2 := blk_frozen BK125.out 2
           have hfz116_3 := blk_frozen BK125.out 3
           have hnb117 := NB123_117.out
           have hnc117 := NB117_123.out
           have hnb118 := NB123_118.out
           have hnc118 := NB118_123.out
           have hnb119 := NB123_119.out
           have hnc119 := NB119_123.out
           have hcz120_0 := b0 BK123
           have hcz120_1 := b1 BK123
           have hcz120_2 := b2 BK123
           have hcz120_3 := b3 BK123
           have hcz120_4 := b4 BK123
           have hcz120_5 := b5 BK123
           have hcz120_6 := b6 BK123
           have hfz120_0 := blk_frozen BK123.out 0
           have hfz120_1 := blk_frozen BK123.out 1
           have hfz120_2 := blk_frozen BK123.out 2
           have hfz120_3 := blk_frozen BK123.out 3
           have hfz120_4 := blk_frozen BK123.out 4
           have hfz120_5 := blk_frozen BK123.out 5
           have hfz120_6 := blk_frozen BK123.out 6
           try go_wp2
           go_roundg kj67
           case measure => have := HJ5.out; have := HK2.out; have := HJ67.out; omega
           case rel => exact ⟨(wrap64 (x51_2 + 1)), (x124003_2), (((rd_T60 l4 x51_2).f3)), (by first | rfl | (simp; done) | (simp [*]; done)), H', ⟨by have := HJ5.out; have := HK2.out; have := HJ67.out; omega⟩, ⟨qB BK117⟩, ⟨qB BK118⟩, ⟨qB BK119⟩, ⟨by refine qz ?_; refine blk_put (cs := #[.bool true, .int .i64 a2_0, .int .i64 a2_1, .int .i64 x124003_2, .int .i64 a2_3, .int .i64 x124005_2, .slice none 0 0]) ?_ 5 _ rfl; refine qz ?_; exact BK123.out⟩, ⟨(qs HB)⟩⟩
          rw [if_neg c109] at H
          have c109b0 : decide (x124005_2 < ((rd_T60 l4 x51_2).f3)) = false := decide_eq_false c109
          clear c109
          have H' := Aside0.mk H
          clear H
          try go_wp2
          replace BK117 := Aside0.mk (blk_drew BK117.out); replace BK118 := Aside0.mk (blk_drew BK118.out); replace BK119 := Aside0.mk (blk_drew BK119.out); replace BK123 := Aside0.mk (blk_drew BK123.out); replace BK125 := Aside0.mk (blk_drew BK125.out); replace HB := Aside0.mk (below_drew1 HB.out)
          refine start_ (n := 7) (S := fun w' => w'.cell? ⟨gb125, 0, none⟩ = some (.int .i64 ((rd_T60 l4 x51_2).f0)) ∧ w'.cell? ⟨gb125, 1, none⟩ = some (.int .i64 ((rd_T60 l4 x51_2).f1)) ∧ w'.cell? ⟨gb125, 2, none⟩ = some (.int .i64 ((rd_T60 l4 x51_2).f2)) ∧ w'.cell? ⟨gb125, 3, none⟩ = some (.int .i64 ((rd_T60 l4 x51_2).f3)) ∧ w'.cell? ⟨gb123, 0, none⟩ = some (.bool true) ∧ w'.cell? ⟨gb123, 1, none⟩ = some (.int .i64 a2_0) ∧ w'.cell? ⟨gb123, 2, none⟩ = some (.int .i64 a2_1) ∧ w'.cell? ⟨gb123, 3, none⟩ = some (.int .i64 x124003_2) ∧ w'.cell? ⟨gb123, 4, none⟩ = some (.int .i64 a2_3) ∧ w'.cell? ⟨gb123, 5, none⟩ = some (.int .i64 x124005_2) ∧ w'.cell? ⟨gb123, 6, none⟩ = some (.slice none 0 0)) (ds := []) #[false, false, false, false, false, false, false] (by kernel_rfl) rfl rfl ⟨bc BK125 0, bc BK125 1, bc BK125 2, bc BK125 3, bc BK123 0, bc BK123 1, bc BK123 2, bc BK123 3, bc BK123 4, bc BK123 5, bc BK123 6⟩ (fun hHeld => ?_)
          generalize wc.drew = w121 at BK117 BK118 BK119 BK123 BK125 HB hHeld ⊢
          refine pureA 0 67 #[true, false, false, false, false, false, false] (by kernel_rfl) ?_
          refine pureA 2 69 #[true, false, true, false, false, false, false] (by kernel_rfl) ?_
          refine pureA 3 70 #[true, false, true, true, false, false, false] (by kernel_rfl) ?_
          refine pureA 4 71 #[true, false, true, true, true, false, false] (by kernel_rfl) ?_
          refine takeA 1 68 #[true, true, true, true, true, false, false] (by kernel_rfl) hHeld ?_
          refine takeA 5 72 #[true, true, true, true, true, true, false] (by kernel_rfl) hHeld ?_
          refine pureA 6 73 #[true, true, true, true, true, true, true] (by kernel_rfl) ?_
          refine done_ (by kernel_rfl) ?_
          try go_wp2
          replace BK117 := Aside0.mk (blk_drew BK117.out); replace BK118 := Aside0.mk (blk_drew BK118.out); replace BK119 := Aside0.mk (blk_drew BK119.out); replace BK123 := Aside0.mk (blk_drew BK123.out); replace BK125 := Aside0.mk (blk_drew BK125.out); replace HB := Aside0.mk (below_drew1 HB.out)
          refine start_ (n := 7) (S := fun w' => w'.cell? ⟨gb125, 0, none⟩ = some (.int .i64 ((rd_T60 l4 x51_2).f0)) ∧ w'.cell? ⟨gb125, 1, none⟩ = some (.int .i64 ((rd_T60 l4 x51_2).f1)) ∧ w'.cell? ⟨gb125, 2, none⟩ = some (.int .i64 ((rd_T60 l4 x51_2).f2)) ∧ w'.cell? ⟨gb125, 3, none⟩ = some (.int .i64 ((rd_T60 l4 x51_2).f3)) ∧ w'.cell? ⟨gb123, 0, none⟩ = some (.bool true) ∧ w'.cell? ⟨gb123, 1, none⟩ = some (.int .i64 a2_0) ∧ w'.cell? ⟨gb123, 2, none⟩ = some (.int .i64 a2_1) ∧ w'.cell? ⟨gb123, 3, none⟩ = some (.int .i64 x124003_2) ∧ w'.cell? ⟨gb123, 4, none⟩ = some (.int .i64 a2_3) ∧ w'.cell? ⟨gb123, 5, none⟩ = some (.int .i64 x124005_2) ∧ w'.cell? ⟨gb123, 6, none⟩ = some (.slice none 0 0)) (ds := []) #[false, false, false, false, false, false, false] (by kernel_rfl) rfl rfl ⟨bc BK125 0, bc BK125 1, bc BK125 2, bc BK125 3, bc BK123 0, bc BK123 1, bc BK123 2, bc BK123 3, bc BK123 4, bc BK123 5, bc BK123 6⟩ (fun hHeld => ?_)
          generalize w121.drew = w122 at BK117 BK118 BK119 BK123 BK125 HB hHeld ⊢
          refine pureA 0 79 #[true, false, false, false, false, false, false] (by kernel_rfl) ?_
          refine pureA 2 81 #[true, false, true, false, false, false, false] (by kernel_rfl) ?_
          refine pureA 3 82 #[true, false, true, true, false, false, false] (by kernel_rfl) ?_
          refine pureA 4 83 #[true, false, true, true, true, false, false] (by kernel_rfl) ?_
          refine takeA 1 80 #[true, true, true, true, true, false, false] (by kernel_rfl) hHeld ?_
          refine takeA 5 84 #[true, true, true, true, true, true, false] (by kernel_rfl) hHeld ?_
          refine pureA 6 85 #[true, true, true, true, true, true, true] (by kernel_rfl) ?_
          refine done_ (by kernel_rfl) ?_
          try go_wp2
          go_roundg kj67
          case measure => have := HJ5.out; have := HK2.out; have := HJ67.out; omega
          case rel => exact ⟨(wrap64 (x51_2 + 1)), (x124003_2), (x124005_2), (by first | rfl | (simp; done) | (simp [*]; done)), H', ⟨by have := HJ5.out; have := HK2.out; have := HJ67.out; omega⟩, ⟨qb BK117⟩, ⟨qb BK118⟩, ⟨qb BK119⟩, ⟨qb BK123⟩, ⟨(qs HB)⟩⟩
       rw [if_neg c67] at H
       exact absurd H (by simp)
      rw [if_neg c66] at H
      exact absurd H (by simp)
     rw [if_neg c65] at H
     have c65b0 : decide (x51_2 < (l4.length : Int)) = false := decide_eq_false c65
     clear c65
     have H' := Aside0.mk H
     clear H
     go_wp2
     go_loopg [94] k2 (fun kq v94 w' => ∃ (x94_3 : Int) (x124001_3 : Int) (x124002_3 : Int), v94 = .int .i64 x94_3 ∧ Aside0 (spec_BoxTick.l1 kq a1 l3 l3 (l3.length : Int) x94_3 a0_0 a0_1 a0_2 true x124001_3 x124002_3 x124003_2 a2_3 x124005_2 = some (r1, r2, r3, r4, r5, r6, r7)) ∧ Aside0 (kq ≤ k2) ∧ Aside0 (w'.heap[gb117]? = some (.cells #[.int .i64 a0_0, .int .i64 a0_1, .int .i64 a0_2] 34 (0, 0))) ∧ Aside0 (w'.heap[gb118]? = some (.cells #[.int .i64 a2_0, .int .i64 a2_1, .int .i64 a2_2, .int .i64 a2_3, .int .i64 a2_4] 29 (0, 0))) ∧ Aside0 (w'.heap[gb119]? = some (.cells #[.bool false, .int .i64 0, .int .i64 0, .int .i64 0, .int .i64 0, .int .i64 0, (.slice none 0 0)] 32 (0, 0))) ∧ Aside0 (w'.heap[gb123]? = some (.cells #[.bool true, .int .i64 x124001_3, .int .i64 x124002_3, .int .i64 x124003_2, .int .i64 a2_3, .int .i64 x124005_2, (.slice none 0 0)] 32 (0, 0))) ∧ Aside0 (Below w.heap.size w w'))
     case atStart => exact ⟨(0), (a2_0), (a2_1), (by first | rfl | (simp; done) | (simp [*]; done)), H', ⟨Nat.le_refl _⟩, ⟨qb BK117⟩, ⟨qb BK118⟩, ⟨qb BK119⟩, ⟨qb BK123⟩, ⟨(qs HB)⟩⟩
     case round =>
      clear H'
      try clear c1; try clear p2; try clear c6; try clear p6; try clear c8; try clear c9; try clear c10; try clear c11; try clear p64; try clear c65; try clear c65b0; try clear c66; try clear c67; try clear c81; try clear c81b0; try clear c98; try clear c99; try clear c100; try clear c101; try clear c103; try clear c104; try clear c105; try clear c109; try clear c109b0; try clear c112; try clear c113; try clear c114; try clear c115; try clear c117; try clear c118; try clear c119; try clear hcz102_0; try clear hcz102_1; try clear hcz102_2; try clear hcz102_3; try clear hcz106_0; try clear hcz106_1; try clear hcz106_2; try clear hcz106_3; try clear hcz106_4; try clear hcz106_5; try clear hcz106_6; try clear hcz116_0; try clear hcz116_1; try clear hcz116_2; try clear hcz116_3; try clear hcz120_0; try clear hcz120_1; try clear hcz120_2; try clear hcz120_3; try clear hcz120_4; try clear hcz120_5; try clear hcz120_6; try clear hfz102_0; try clear hfz102_1; try clear hfz102_2; try clear hfz102_3; try clear hfz106_0; try clear hfz106_1; try clear hfz106_2; try clear hfz106_3; try clear hfz106_4; try clear hfz106_5; try clear hfz106_6; try clear hfz116_0; try clear hfz116_1; try clear hfz116_2; try clear hfz116_3; try clear hfz120_0; try clear hfz120_1; try clear hfz120_2; try clear hfz120_3; try clear hfz120_4; try clear hfz120_5; try clear hfz120_6
      obtain ⟨x94_3, x124001_3, x124002_3, rfl, HA, HK3, BK117, BK118, BK119, BK123, HB⟩ := hrel
      cases gk with
      | zero => exact absurd HA.out (by simp [spec_BoxTick.l1])
      | succ k3 =>
       have H := HA.out
       clear HA
       simp only [spec_BoxTick.l1] at H
       by_cases c123 : x94_3 < (l3.length : Int)
       ·rw [if_pos c123] at H
        have c123b0 : decide (x94_3 < (l3.length : Int)) = true := decide_eq_true c123
        clear c123
        by_cases c124 : 0 ≤ x94_3
        ·rw [if_pos c124] at H
         have c124b0 : decide (0 ≤ x94_3) = true := decide_eq_true c124
         clear c124
         by_cases c125 : x94_3 < (l3.length : Int)
         ·rw [if_pos c125] at H
          have c125b0 : decide (x94_3 < (l3.length : Int)) = true := decide_eq_true c125
          clear c125
          have H' := Aside0.mk H
          clear H
          have p126 : 0 ≤ (x94_3 : Int) := of_decide_eq_true (by assumption)
          have q126 : x94_3 < (l3.length : Int) := of_decide_eq_true (by assumption)
          obtain ⟨ad126, e126, hx126_0⟩ := Kd.at_int HR3.out x94_3 p126 q126
          cases e126
          replace hx126_0 := (HB.out.cell (World.block_lt_of_cell? w _ hx126_0)).trans hx126_0
          replace p126 := eq_true p126
          replace q126 := eq_true q126
          have hnb126 := NB123_117.out
          have hnc126 := NB117_123.out
          have hnb127 := NB123_118.out
          have hnc127 := NB118_123.out
          have hnb128 := NB123_119.out
          have hnc128 := NB119_123.out
          have hcz129_0 := b0 BK123
          have hcz129_1 := b1 BK123
          have hcz129_2 := b2 BK123
          have hcz129_3 := b3 BK123
          have hcz129_4 := b4 BK123
          have hcz129_5 := b5 BK123
          have hcz129_6 := b6 BK123
          have hfz129_0 := blk_frozen BK123.out 0
          have hfz129_1 := blk_frozen BK123.out 1
          have hfz129_2 := blk_frozen BK123.out 2
          have hfz129_3 := blk_frozen BK123.out 3
          have hfz129_4 := blk_frozen BK123.out 4
          have hfz129_5 := blk_frozen BK123.out 5
          have hfz129_6 := blk_frozen BK123.out 6
          go_wp2
          go_roundg k3
          case measure => have := HJ5.out; have := HK2.out; have := HK3.out; omega
          case rel => exact ⟨(wrap64 (x94_3 + 1)), (wrap64 (x124001_3 + 1)), (rd l3 x94_3), (by first | rfl | (simp; done) | (simp [*]; done)), H', ⟨by have := HJ5.out; have := HK2.out; have := HK3.out; omega⟩, ⟨qB BK117⟩, ⟨qB BK118⟩, ⟨qB BK119⟩, ⟨by refine qz ?_; refine blk_put (cs := #[.bool true, .int .i64 (wrap64 (x124001_3 + 1)), .int .i64 x124002_3, .int .i64 x124003_2, .int .i64 a2_3, .int .i64 x124005_2, .slice none 0 0]) ?_ 2 _ rfl; refine qz ?_; refine blk_put (cs := #[.bool true, .int .i64 x124001_3, .int .i64 x124002_3, .int .i64 x124003_2, .int .i64 a2_3, .int .i64 x124005_2, .slice none 0 0]) ?_ 1 _ rfl; refine qz ?_; exact BK123.out⟩, ⟨(qs HB)⟩⟩
         rw [if_neg c125] at H
         exact absurd H (by simp)
        rw [if_neg c124] at H
        exact absurd H (by simp)
       rw [if_neg c123] at H
       have c123b0 : decide (x94_3 < (l3.length : Int)) = false := decide_eq_false c123
       clear c123
       by_cases c130 : (l3.length : Int) > 0
       ·rw [if_pos c130] at H
        have c130b0 : decide (0 < (l3.length : Int)) = true := decide_eq_true c130
        have c130b1 : decide (0 < l3.length) = true := decide_eq_true (by omega)
        clear c130
        obtain ⟨y127, hy127⟩ : ∃ y_ : List (S60), y_ = (([(⟨1, x124001_3, x124002_3, a1⟩ : S60)] : List (S60))) := ⟨_, rfl⟩
        replace H : (some (true, x124001_3, x124002_3, x124003_2, a1, x124005_2, y127)) = some (r1, r2, r3, r4, r5, r6, r7) := by first | (rw [hy127]; with_reducible exact H) | (have H2_ := (Option.bind_some _ _).symm.trans H; rw [hy127]; with_reducible exact H2_) | (have H2_ := (Option.bind_some _ _).symm.trans H; with_reducible exact H2_) | with_reducible exact H | (rw [hy127]; exact H) | exact H
        have Ny127 := Aside0.mk hy127
        clear hy127
        simp only [Option.some.injEq, Prod.mk.injEq] at H
        obtain ⟨rfl, rfl, rfl, rfl, rfl, rfl, rfl⟩ := H
        try go_wp2
        replace BK117 := Aside0.mk (blk_drew BK117.out); replace BK118 := Aside0.mk (blk_drew BK118.out); replace BK119 := Aside0.mk (blk_drew BK119.out); replace BK123 := Aside0.mk (blk_drew BK123.out); replace HB := Aside0.mk (below_drew1 HB.out)
        refine start_ (n := 14) (S := fun w' => True) (ds := []) #[false, false, false, false, false, false, false, false, false, false, false, false, false, false] (by kernel_rfl) rfl rfl trivial (fun hHeld => ?_); refine with_tabW spec_BoxTick.tab20 spec_BoxTick.bits20 (fun HT_ HW_ => ?_)
        generalize wr.drew = w131 at BK117 BK118 BK119 BK123 HB hHeld ⊢
        refine pureA 0 110 #[true, false, false, false, false, false, false, false, false, false, false, false, false, false] (any_of HT_.out (by kernel_rfl)) ?_
        refine pureA 1 111 #[true, true, false, false, false, false, false, false, false, false, false, false, false, false] (any_of HT_.out (by kernel_rfl)) ?_
        refine pureA 2 112 #[true, true, true, false, false, false, false, false, false, false, false, false, false, false] (any_of HT_.out (by kernel_rfl)) ?_
        refine pureA 3 113 #[true, true, true, true, false, false, false, false, false, false, false, false, false, false] (any_of HT_.out (by kernel_rfl)) ?_
        refine pure_ (i := 4) (N := some 114) (v := undef) (a' := ?_) #[true, true, true, true, true, false, false, false, false, false, false, false, false, false] rfl rfl (any_of HT_.out (by kernel_rfl)) (fun _ _ _ h => h) (Or.inr ⟨by rfl, rfl⟩) ?_ ?_
        rotate_left
        ·simp only [Act.put, List.setIfInBounds_toArray, List.set_cons_zero, List.set_cons_succ, i64_w, i32_w]
         rfl
        refine pure_ (i := 5) (N := some 115) (v := undef) (a' := ?_) #[true, true, true, true, true, true, false, false, false, false, false, false, false, false] rfl rfl (any_of HT_.out (by kernel_rfl)) (fun _ _ _ h => h) (Or.inr ⟨by rfl, rfl⟩) ?_ ?_
        rotate_left
        ·simp only [Act.put, List.setIfInBounds_toArray, List.set_cons_zero, List.set_cons_succ, i64_w, i32_w]
         rfl
        refine pure_ (i := 6) (N := some 116) (v := undef) (a' := ?_) #[true, true, true, true, true, true, true, false, false, false, false, false, false, false] rfl rfl (any_of HT_.out (by kernel_rfl)) (fun _ _ _ h => h) (Or.inr ⟨by rfl, rfl⟩) ?_ ?_
        rotate_left
        ·simp only [Act.put, List.setIfInBounds_toArray, List.set_cons_zero, List.set_cons_succ, i64_w, i32_w]
         rfl
        refine pure_ (i := 7) (N := some 117) (v := undef) (a' := ?_) #[true, true, true, true, true, true, true, true, false, false, false, false, false, false] rfl rfl (any_of HT_.out (by kernel_rfl)) (fun _ _ _ h => h) (Or.inr ⟨by rfl, rfl⟩) ?_ ?_
        rotate_left
        ·simp only [Act.put, List.setIfInBounds_toArray, List.set_cons_zero, List.set_cons_succ, i64_w, i32_w]
         rfl
        refine pure_ (i := 8) (N := some 118) (v := undef) (a' := ?_) #[true, true, true, true, true, true, true, true, true, false, false, false, false, false] rfl rfl (any_of HT_.out (by kernel_rfl)) (fun _ _ _ h => h) (Or.inr ⟨by rfl, rfl⟩) ?_ ?_
        rotate_left
        ·simp only [Act.put, List.setIfInBounds_toArray, List.set_cons_zero, List.set_cons_succ, i64_w, i32_w]
         rfl
        refine pure_ (i := 9) (N := some 119) (v := undef) (a' := ?_) #[true, true, true, true, true, true, true, true, true, true, false, false, false, false] rfl rfl (any_of HT_.out (by kernel_rfl)) (fun _ _ _ h => h) (Or.inr ⟨by rfl, rfl⟩) ?_ ?_
        rotate_left
        ·simp only [Act.put, List.setIfInBounds_toArray, List.set_cons_zero, List.set_cons_succ, i64_w, i32_w]
         rfl
        refine pure_ (i := 10) (N := some 120) (v := undef) (a' := ?_) #[true, true, true, true, true, true, true, true, true, true, true, false, false, false] rfl rfl (any_of HT_.out (by kernel_rfl)) (fun _ _ _ h => h) (Or.inr ⟨by rfl, rfl⟩) ?_ ?_
        rotate_left
        ·simp only [Act.put, List.setIfInBounds_toArray, List.set_cons_zero, List.set_cons_succ, i64_w, i32_w]
         rfl
        refine pure_ (i := 11) (N := some 121) (v := undef) (a' := ?_) #[true, true, true, true, true, true, true, true, true, true, true, true, false, false] rfl rfl (any_of HT_.out (by kernel_rfl)) (fun _ _ _ h => h) (Or.inr ⟨by rfl, rfl⟩) ?_ ?_
        rotate_left
        ·simp only [Act.put, List.setIfInBounds_toArray, List.set_cons_zero, List.set_cons_succ, i64_w, i32_w]
         rfl
        refine pure_ (i := 12) (N := some 122) (v := undef) (a' := ?_) #[true, true, true, true, true, true, true, true, true, true, true, true, true, false] rfl rfl (any_of HT_.out (by kernel_rfl)) (fun _ _ _ h => h) (Or.inr ⟨by rfl, rfl⟩) ?_ ?_
        rotate_left
        ·simp only [Act.put, List.setIfInBounds_toArray, List.set_cons_zero, List.set_cons_succ, i64_w, i32_w]
         rfl
        refine pureA 13 123 #[true, true, true, true, true, true, true, true, true, true, true, true, true, true] (any_of HT_.out (by kernel_rfl)) ?_
        refine done_ (done_of HT_.out (by kernel_rfl)) ?_
        have hnb132 := NB123_117.out
        have hnc132 := NB117_123.out
        have hnb133 := NB123_118.out
        have hnc133 := NB118_123.out
        have hnb134 := NB123_119.out
        have hnc134 := NB119_123.out
        have hcz135_0 := b0 BK123
        have hcz135_1 := b1 BK123
        have hcz135_2 := b2 BK123
        have hcz135_3 := b3 BK123
        have hcz135_4 := b4 BK123
        have hcz135_5 := b5 BK123
        have hcz135_6 := b6 BK123
        have hfz135_0 := blk_frozen BK123.out 0
        have hfz135_1 := blk_frozen BK123.out 1
        have hfz135_2 := blk_frozen BK123.out 2
        have hfz135_3 := blk_frozen BK123.out 3
        have hfz135_4 := blk_frozen BK123.out 4
        have hfz135_5 := blk_frozen BK123.out 5
        have hfz135_6 := blk_frozen BK123.out 6
        try go_wp2
        have n0_ : Aside0 ((w131.setCell ⟨gb123, 4, none⟩ (.int .i64 a1)).heap[gb117]? = some (.cells #[.int .i64 a0_0, .int .i64 a0_1, .int .i64 a0_2] 34 (0, 0))) := ⟨qB BK117⟩
        have n1_ : Aside0 ((w131.setCell ⟨gb123, 4, none⟩ (.int .i64 a1)).heap[gb118]? = some (.cells #[.int .i64 a2_0, .int .i64 a2_1, .int .i64 a2_2, .int .i64 a2_3, .int .i64 a2_4] 29 (0, 0))) := ⟨qB BK118⟩
        have n2_ : Aside0 ((w131.setCell ⟨gb123, 4, none⟩ (.int .i64 a1)).heap[gb119]? = some (.cells #[.bool false, .int .i64 0, .int .i64 0, .int .i64 0, .int .i64 0, .int .i64 0, .slice none 0 0] 32 (0, 0))) := ⟨qB BK119⟩
        have n3_ : Aside0 ((w131.setCell ⟨gb123, 4, none⟩ (.int .i64 a1)).heap[gb123]? = some (.cells #[.bool true, .int .i64 x124001_3, .int .i64 x124002_3, .int .i64 x124003_2, .int .i64 a1, .int .i64 x124005_2, .slice none 0 0] 32 (0, 0))) := ⟨by refine qz ?_; refine blk_put (cs := #[.bool true, .int .i64 x124001_3, .int .i64 x124002_3, .int .i64 x124003_2, .int .i64 a2_3, .int .i64 x124005_2, .slice none 0 0]) ?_ 4 _ rfl; refine qz ?_; exact BK123.out⟩
        have n4_ : Aside0 (Below w.heap.size w (w131.setCell ⟨gb123, 4, none⟩ (.int .i64 a1))) := ⟨(qs HB)⟩
        (try clear BK117); (try clear BK118); (try clear BK119); (try clear BK123); (try clear HB)
        generalize (w131.setCell ⟨gb123, 4, none⟩ (.int .i64 a1)) = w136 at n0_ n1_ n2_ n3_ n4_ ⊢
        have BK117 := n0_; have BK118 := n1_; have BK119 := n2_; have BK123 := n3_; have HB := n4_; clear n0_ n1_ n2_ n3_ n4_
        replace BK117 := Aside0.mk (blk_drew BK117.out); replace BK118 := Aside0.mk (blk_drew BK118.out); replace BK119 := Aside0.mk (blk_drew BK119.out); replace BK123 := Aside0.mk (blk_drew BK123.out); replace HB := Aside0.mk (below_drew1 HB.out)
        refine start_ (n := 13) (S := fun w' => w'.cell? ⟨gb123, 0, none⟩ = some (.bool true) ∧ w'.cell? ⟨gb123, 1, none⟩ = some (.int .i64 x124001_3) ∧ w'.cell? ⟨gb123, 2, none⟩ = some (.int .i64 x124002_3) ∧ w'.cell? ⟨gb123, 3, none⟩ = some (.int .i64 x124003_2) ∧ w'.cell? ⟨gb123, 4, none⟩ = some (.int .i64 a1) ∧ w'.cell? ⟨gb123, 5, none⟩ = some (.int .i64 x124005_2) ∧ w'.cell? ⟨gb123, 6, none⟩ = some (.slice none 0 0)) (ds := [12]) #[false, false, false, false, false, false, false, false, false, false, false, false, false] (by kernel_rfl) rfl rfl ⟨bc BK123 0, bc BK123 1, bc BK123 2, bc BK123 3, bc BK123 4, bc BK123 5, bc BK123 6⟩ (fun hHeld => ?_); refine with_tabW spec_BoxTick.tab22 spec_BoxTick.bits22 (fun HT_ HW_ => ?_)
        generalize w136.drew = w137 at BK117 BK118 BK119 BK123 HB hHeld ⊢
        refine pureA 0 128 #[true, false, false, false, false, false, false, false, false, false, false, false, false] (any_of HT_.out (by kernel_rfl)) ?_
        refine pureA 1 129 #[true, true, false, false, false, false, false, false, false, false, false, false, false] (any_of HT_.out (by kernel_rfl)) ?_
        refine pureA 2 130 #[true, true, true, false, false, false, false, false, false, false, false, false, false] (any_of HT_.out (by kernel_rfl)) ?_
        refine pureA 4 132 #[true, true, true, false, true, false, false, false, false, false, false, false, false] (any_of HT_.out (by kernel_rfl)) ?_
        refine pureA 5 133 #[true, true, true, false, true, true, false, false, false, false, false, false, false] (any_of HT_.out (by kernel_rfl)) ?_
        refine pureA 6 134 #[true, true, true, false, true, true, true, false, false, false, false, false, false] (any_of HT_.out (by kernel_rfl)) ?_
        refine pureA 8 136 #[true, true, true, false, true, true, true, false, true, false, false, false, false] (any_of HT_.out (by kernel_rfl)) ?_
        refine takeA 3 131 #[true, true, true, true, true, true, true, false, true, false, false, false, false] (take_ofW HT_.out HW_.out (by kernel_rfl)) hHeld ?_
        refine takeA 7 135 #[true, true, true, true, true, true, true, true, true, false, false, false, false] (take_ofW HT_.out HW_.out (by kernel_rfl)) hHeld ?_
        refine pureA 9 137 #[true, true, true, true, true, true, true, true, true, true, false, false, false] (any_of HT_.out (by kernel_rfl)) ?_
        refine one_ (i := 10) (N := some 138) #[true, true, true, true, true, true, true, true, true, true, true, false, false] rfl rfl (one_of HT_.out (by kernel_rfl)) (by decide) (fun K hK => ?_)
        refine Kd.R_lit_step k60 _ 60 ?hg (N := 138) ?hd (xs := ([(⟨1, x124001_3, x124002_3, a1⟩ : S60)] : List (S60))) (inner := [.int .i64 1, .int .i64 x124001_3, .int .i64 x124002_3, .int .i64 a1]) (ok := fun _ => True) (okp := fun _ => True) ?hr ?hp (fun _ hk => hk) trivial (Below.refl _ _) (Nat.le_refl _) (by simp) ?_; (case hd => rfl); (case hg => rfl); (case hr => first | (go_simp; done) | (go_simp; rfl)); (case hp => exact (Reps.c4 (show Kd.M k60 _ _ _ (⟨1, x124001_3, x124002_3, a1⟩ : S60) [.int .i64 1, .int .i64 x124001_3, .int .i64 x124002_3, .int .i64 a1] from (k60_mkM _ _ _ (⟨1, x124001_3, x124002_3, a1⟩ : S60) )) (Reps.none _ _)))
        intro v128 w138 ho139 hb hg_ hnew_
        clear hg_ hnew_
        (first | rw [← Ny127.out] at ho139 | (simp only [Int.reduceToNat] at ho139; rw [← Ny127.out] at ho139))
        have HO129 := Aside0.mk (Kd.R_lower ho139 (below_size (qs HB))); replace BK117 := bkb BK117 hb; replace BK118 := bkb BK118 hb; replace BK119 := bkb BK119 hb; replace BK123 := bkb BK123 hb; replace HB := bst HB hb; clear hb ho139
        obtain ⟨Ao140, co140, eo140⟩ := Kd.R_slice HO129.out
        (first | subst eo140 | (injection eo140 with f1_ f2_ f3_; have f4_ := f1_.symm; have f5_ := f3_.symm; clear f1_ f2_ f3_; subst f4_; subst f5_))
        refine hK.out _ _ ⟨bc BK123 0, bc BK123 1, bc BK123 2, bc BK123 3, bc BK123 4, bc BK123 5, bc BK123 6⟩ (fun hHeld => ?_)
        clear hK K
        refine normP ?_
        refine pureA 11 139 #[true, true, true, true, true, true, true, true, true, true, true, true, false] (any_of HT_.out (by kernel_rfl)) ?_
        refine last_ (i := 12) (N := none) #[true, true, true, true, true, true, true, true, true, true, true, true, true] rfl rfl (one_of HT_.out (by kernel_rfl)) (by decide) (fun K hK => ?_)
        have hs141 := b6 BK123
        have hfs141 := blk_frozen BK123.out 6
        have hns141_0 := NB117_123.out
        have hns141_1 := NB118_123.out
        have hns141_2 := NB119_123.out
        have hms141_0 := NB123_117.out
        have hms141_1 := NB123_118.out
        have hms141_2 := NB123_119.out
        refine skip_ (w1 := ?_) (by rfl) rfl ?_ ?_
        rotate_left
        ·go_simp
         rfl
        refine hK.out _ _ ?_
        clear hK K
        refine done_ (done_of HT_.out (by kernel_rfl)) ?_
        have hcz142_0 := b0 BK123
        have hcz142_1 := b1 BK123
        have hcz142_2 := b2 BK123
        have hcz142_3 := b3 BK123
        have hcz142_4 := b4 BK123
        have hcz142_5 := b5 BK123
        have hcz142_6 := b6 BK123
        have hfz142_0 := blk_frozen BK123.out 0
        have hfz142_1 := blk_frozen BK123.out 1
        have hfz142_2 := blk_frozen BK123.out 2
        have hfz142_3 := blk_frozen BK123.out 3
        have hfz142_4 := blk_frozen BK123.out 4
        have hfz142_5 := blk_frozen BK123.out 5
        have hfz142_6 := blk_frozen BK123.out 6
        have hnb143 := NB119_117.out
        have hnc143 := NB117_119.out
        have hnb144 := NB119_118.out
        have hnc144 := NB118_119.out
        have hcz145_0 := b0 BK119
        have hcz145_1 := b1 BK119
        have hcz145_2 := b2 BK119
        have hcz145_3 := b3 BK119
        have hcz145_4 := b4 BK119
        have hcz145_5 := b5 BK119
        have hcz145_6 := b6 BK119
        have hfz145_0 := blk_frozen BK119.out 0
        have hfz145_1 := blk_frozen BK119.out 1
        have hfz145_2 := blk_frozen BK119.out 2
        have hfz145_3 := blk_frozen BK119.out 3
        have hfz145_4 := blk_frozen BK119.out 4
        have hfz145_5 := blk_frozen BK119.out 5
        have hfz145_6 := blk_frozen BK119.out 6
        try go_wp2
        refine bodyPost_ret (results_cell_row rfl _ _ gb119 32 #[.bool true, .int .i64 x124001_3, .int .i64 x124002_3, .int .i64 x124003_2, .int .i64 a1, .int .i64 x124005_2, .slice Ao140 y127.length co140] (0, 0) _ rfl (by refine qz ?_; refine blk_put (cs := #[.bool true, .int .i64 x124001_3, .int .i64 x124002_3, .int .i64 x124003_2, .int .i64 a1, .int .i64 x124005_2, .slice none 0 0]) ?_ 6 _ rfl; refine qz ?_; refine blk_put (cs := #[.bool true, .int .i64 x124001_3, .int .i64 x124002_3, .int .i64 x124003_2, .int .i64 a1, .int .i64 0, .slice none 0 0]) ?_ 5 _ rfl; refine qz ?_; refine blk_put (cs := #[.bool true, .int .i64 x124001_3, .int .i64 x124002_3, .int .i64 x124003_2, .int .i64 0, .int .i64 0, .slice none 0 0]) ?_ 4 _ rfl; refine qz ?_; refine blk_put (cs := #[.bool true, .int .i64 x124001_3, .int .i64 x124002_3, .int .i64 0, .int .i64 0, .int .i64 0, .slice none 0 0]) ?_ 3 _ rfl; refine qz ?_; refine blk_put (cs := #[.bool true, .int .i64 x124001_3, .int .i64 0, .int .i64 0, .int .i64 0, .int .i64 0, .slice none 0 0]) ?_ 2 _ rfl; refine qz ?_; refine blk_put (cs := #[.bool true, .int .i64 0, .int .i64 0, .int .i64 0, .int .i64 0, .int .i64 0, .slice none 0 0]) ?_ 1 _ rfl; refine qz ?_; refine blk_put (cs := #[.bool false, .int .i64 0, .int .i64 0, .int .i64 0, .int .i64 0, .int .i64 0, .slice none 0 0]) ?_ 0 _ rfl; exact qB BK119) Try.underlying32 rfl (by kernel_rfl)) rfl ?_
        exact ⟨_, by first | rfl | (simp [*, errW_none, errW_some] <;> rfl), by (with_reducible repeat (first | apply Kd.R_alloc | apply Kd.R_drewN | apply Kd.R_drew)); exact Kd.R_mono (Kd.R_far (p := ⟨gb119, 6, none⟩) (Kd.R_far (p := ⟨gb119, 5, none⟩) (Kd.R_far (p := ⟨gb119, 4, none⟩) (Kd.R_far (p := ⟨gb119, 3, none⟩) (Kd.R_far (p := ⟨gb119, 2, none⟩) (Kd.R_far (p := ⟨gb119, 1, none⟩) (Kd.R_far (p := ⟨gb119, 0, none⟩) (Kd.R_far (p := ⟨gb123, 6, none⟩) (Kd.R_types (Kd.R_types HO129.out BK123.out (by decide)) BK119.out (by decide)) (fun _ hk => hk.1.2) (.slice Ao140 y127.length co140)) (fun _ hk => hk.2) (.bool true)) (fun _ hk => hk.2) (.int .i64 x124001_3)) (fun _ hk => hk.2) (.int .i64 x124002_3)) (fun _ hk => hk.2) (.int .i64 x124003_2)) (fun _ hk => hk.2) (.int .i64 a1)) (fun _ hk => hk.2) (.int .i64 x124005_2)) (fun _ hk => hk.2) (.slice Ao140 y127.length co140)) (fun _ hk => trivial), (qs HB)⟩
       rw [if_neg c130] at H
       have c130b0 : decide (0 < (l3.length : Int)) = false := decide_eq_false c130
       have c130b1 : decide (0 < l3.length) = false := decide_eq_false (by omega)
       clear c130
       by_cases c146 : (wrap64 (a1 - a2_3)) ≥ a0_0
       ·rw [if_pos c146] at H
        have c146b0 : decide (a0_0 ≤ (wrap64 (a1 - a2_3))) = true := decide_eq_true c146
        clear c146
        obtain ⟨y130, hy130⟩ : ∃ y_ : List (S60), y_ = (([(⟨1, x124001_3, x124002_3, a1⟩ : S60)] : List (S60))) := ⟨_, rfl⟩
        replace H : (some (true, x124001_3, x124002_3, x124003_2, a1, x124005_2, y130)) = some (r1, r2, r3, r4, r5, r6, r7) := by first | (rw [hy130]; with_reducible exact H) | (have H2_ := (Option.bind_some _ _).symm.trans H; rw [hy130]; with_reducible exact H2_) | (have H2_ := (Option.bind_some _ _).symm.trans H; with_reducible exact H2_) | with_reducible exact H | (rw [hy130]; exact H) | exact H
        have Ny130 := Aside0.mk hy130
        clear hy130
        simp only [Option.some.injEq, Prod.mk.injEq] at H
        obtain ⟨rfl, rfl, rfl, rfl, rfl, rfl, rfl⟩ := H
        try go_wp2
        replace BK117 := Aside0.mk (blk_drew BK117.out); replace BK118 := Aside0.mk (blk_drew BK118.out); replace BK119 := Aside0.mk (blk_drew BK119.out); replace BK123 := Aside0.mk (blk_drew BK123.out); replace HB := Aside0.mk (below_drew1 HB.out)
        refine start_ (n := 14) (S := fun w' => w'.cell? ⟨gb123, 0, none⟩ = some (.bool true) ∧ w'.cell? ⟨gb123, 1, none⟩ = some (.int .i64 x124001_3) ∧ w'.cell? ⟨gb123, 2, none⟩ = some (.int .i64 x124002_3) ∧ w'.cell? ⟨gb123, 3, none⟩ = some (.int .i64 x124003_2) ∧ w'.cell? ⟨gb123, 4, none⟩ = some (.int .i64 a2_3) ∧ w'.cell? ⟨gb123, 5, none⟩ = some (.int .i64 x124005_2) ∧ w'.cell? ⟨gb123, 6, none⟩ = some (.slice none 0 0) ∧ w'.cell? ⟨gb117, 0, none⟩ = some (.int .i64 a0_0) ∧ w'.cell? ⟨gb117, 1, none⟩ = some (.int .i64 a0_1) ∧ w'.cell? ⟨gb117, 2, none⟩ = some (.int .i64 a0_2)) (ds := []) #[false, false, false, false, false, false, false, false, false, false, false, false, false, false] (by kernel_rfl) rfl rfl ⟨bc BK123 0, bc BK123 1, bc BK123 2, bc BK123 3, bc BK123 4, bc BK123 5, bc BK123 6, bc BK117 0, bc BK117 1, bc BK117 2⟩ (fun hHeld => ?_); refine with_tabW spec_BoxTick.tab20 spec_BoxTick.bits20 (fun HT_ HW_ => ?_)
        generalize wr.drew = w147 at BK117 BK118 BK119 BK123 HB hHeld ⊢
        refine pureA 0 110 #[true, false, false, false, false, false, false, false, false, false, false, false, false, false] (any_of HT_.out (by kernel_rfl)) ?_
        refine pureA 1 111 #[true, true, false, false, false, false, false, false, false, false, false, false, false, false] (any_of HT_.out (by kernel_rfl)) ?_
        refine pureA 2 112 #[true, true, true, false, false, false, false, false, false, false, false, false, false, false] (any_of HT_.out (by kernel_rfl)) ?_
        refine pureA 3 113 #[true, true, true, true, false, false, false, false, false, false, false, false, false, false] (any_of HT_.out (by kernel_rfl)) ?_
        refine pureA 4 114 #[true, true, true, true, true, false, false, false, false, false, false, false, false, false] (any_of HT_.out (by kernel_rfl)) ?_
        refine pureA 5 115 #[true, true, true, true, true, true, false, false, false, false, false, false, false, false] (any_of HT_.out (by kernel_rfl)) ?_
        refine pureA 6 116 #[true, true, true, true, true, true, true, false, false, false, false, false, false, false] (any_of HT_.out (by kernel_rfl)) ?_
        refine pureA 7 117 #[true, true, true, true, true, true, true, true, false, false, false, false, false, false] (any_of HT_.out (by kernel_rfl)) ?_
        refine pureA 10 120 #[true, true, true, true, true, true, true, true, false, false, true, false, false, false] (any_of HT_.out (by kernel_rfl)) ?_
        refine takeA 8 118 #[true, true, true, true, true, true, true, true, true, false, true, false, false, false] (take_ofW HT_.out HW_.out (by kernel_rfl)) hHeld ?_
        refine pureA 9 119 #[true, true, true, true, true, true, true, true, true, true, true, false, false, false] (any_of HT_.out (by kernel_rfl)) ?_
        refine takeA 11 121 #[true, true, true, true, true, true, true, true, true, true, true, true, false, false] (take_ofW HT_.out HW_.out (by kernel_rfl)) hHeld ?_
        refine pureA 12 122 #[true, true, true, true, true, true, true, true, true, true, true, true, true, false] (any_of HT_.out (by kernel_rfl)) ?_
        refine pureA 13 123 #[true, true, true, true, true, true, true, true, true, true, true, true, true, true] (any_of HT_.out (by kernel_rfl)) ?_
        refine done_ (done_of HT_.out (by kernel_rfl)) ?_
        have hnb148 := NB123_117.out
        have hnc148 := NB117_123.out
        have hnb149 := NB123_118.out
        have hnc149 := NB118_123.out
        have hnb150 := NB123_119.out
        have hnc150 := NB119_123.out
        have hcz151_0 := b0 BK123
        have hcz151_1 := b1 BK123
        have hcz151_2 := b2 BK123
        have hcz151_3 := b3 BK123
        have hcz151_4 := b4 BK123
        have hcz151_5 := b5 BK123
        have hcz151_6 := b6 BK123
        have hfz151_0 := blk_frozen BK123.out 0
        have hfz151_1 := blk_frozen BK123.out 1
        have hfz151_2 := blk_frozen BK123.out 2
        have hfz151_3 := blk_frozen BK123.out 3
        have hfz151_4 := blk_frozen BK123.out 4
        have hfz151_5 := blk_frozen BK123.out 5
        have hfz151_6 := blk_frozen BK123.out 6
        try go_wp2
        have n0_ : Aside0 ((w147.setCell ⟨gb123, 4, none⟩ (.int .i64 a1)).heap[gb117]? = some (.cells #[.int .i64 a0_0, .int .i64 a0_1, .int .i64 a0_2] 34 (0, 0))) := ⟨qB BK117⟩
        have n1_ : Aside0 ((w147.setCell ⟨gb123, 4, none⟩ (.int .i64 a1)).heap[gb118]? = some (.cells #[.int .i64 a2_0, .int .i64 a2_1, .int .i64 a2_2, .int .i64 a2_3, .int .i64 a2_4] 29 (0, 0))) := ⟨qB BK118⟩
        have n2_ : Aside0 ((w147.setCell ⟨gb123, 4, none⟩ (.int .i64 a1)).heap[gb119]? = some (.cells #[.bool false, .int .i64 0, .int .i64 0, .int .i64 0, .int .i64 0, .int .i64 0, .slice none 0 0] 32 (0, 0))) := ⟨qB BK119⟩
        have n3_ : Aside0 ((w147.setCell ⟨gb123, 4, none⟩ (.int .i64 a1)).heap[gb123]? = some (.cells #[.bool true, .int .i64 x124001_3, .int .i64 x124002_3, .int .i64 x124003_2, .int .i64 a1, .int .i64 x124005_2, .slice none 0 0] 32 (0, 0))) := ⟨by refine qz ?_; refine blk_put (cs := #[.bool true, .int .i64 x124001_3, .int .i64 x124002_3, .int .i64 x124003_2, .int .i64 a2_3, .int .i64 x124005_2, .slice none 0 0]) ?_ 4 _ rfl; refine qz ?_; exact BK123.out⟩
        have n4_ : Aside0 (Below w.heap.size w (w147.setCell ⟨gb123, 4, none⟩ (.int .i64 a1))) := ⟨(qs HB)⟩
        (try clear BK117); (try clear BK118); (try clear BK119); (try clear BK123); (try clear HB)
        generalize (w147.setCell ⟨gb123, 4, none⟩ (.int .i64 a1)) = w152 at n0_ n1_ n2_ n3_ n4_ ⊢
        have BK117 := n0_; have BK118 := n1_; have BK119 := n2_; have BK123 := n3_; have HB := n4_; clear n0_ n1_ n2_ n3_ n4_
        replace BK117 := Aside0.mk (blk_drew BK117.out); replace BK118 := Aside0.mk (blk_drew BK118.out); replace BK119 := Aside0.mk (blk_drew BK119.out); replace BK123 := Aside0.mk (blk_drew BK123.out); replace HB := Aside0.mk (below_drew1 HB.out)
        refine start_ (n := 13) (S := fun w' => w'.cell? ⟨gb123, 0, none⟩ = some (.bool true) ∧ w'.cell? ⟨gb123, 1, none⟩ = some (.int .i64 x124001_3) ∧ w'.cell? ⟨gb123, 2, none⟩ = some (.int .i64 x124002_3) ∧ w'.cell? ⟨gb123, 3, none⟩ = some (.int .i64 x124003_2) ∧ w'.cell? ⟨gb123, 4, none⟩ = some (.int .i64 a1) ∧ w'.cell? ⟨gb123, 5, none⟩ = some (.int .i64 x124005_2) ∧ w'.cell? ⟨gb123, 6, none⟩ = some (.slice none 0 0)) (ds := [12]) #[false, false, false, false, false, false, false, false, false, false, false, false, false] (by kernel_rfl) rfl rfl ⟨bc BK123 0, bc BK123 1, bc BK123 2, bc BK123 3, bc BK123 4, bc BK123 5, bc BK123 6⟩ (fun hHeld => ?_); refine with_tabW spec_BoxTick.tab22 spec_BoxTick.bits22 (fun HT_ HW_ => ?_)
        generalize w152.drew = w153 at BK117 BK118 BK119 BK123 HB hHeld ⊢
        refine pureA 0 128 #[true, false, false, false, false, false, false, false, false, false, false, false, false] (any_of HT_.out (by kernel_rfl)) ?_
        refine pureA 1 129 #[true, true, false, false, false, false, false, false, false, false, false, false, false] (any_of HT_.out (by kernel_rfl)) ?_
        refine pureA 2 130 #[true, true, true, false, false, false, false, false, false, false, false, false, false] (any_of HT_.out (by kernel_rfl)) ?_
        refine pureA 4 132 #[true, true, true, false, true, false, false, false, false, false, false, false, false] (any_of HT_.out (by kernel_rfl)) ?_
        refine pureA 5 133 #[true, true, true, false, true, true, false, false, false, false, false, false, false] (any_of HT_.out (by kernel_rfl)) ?_
        refine pureA 6 134 #[true, true, true, false, true, true, true, false, false, false, false, false, false] (any_of HT_.out (by kernel_rfl)) ?_
        refine pureA 8 136 #[true, true, true, false, true, true, true, false, true, false, false, false, false] (any_of HT_.out (by kernel_rfl)) ?_
        refine takeA 3 131 #[true, true, true, true, true, true, true, false, true, false, false, false, false] (take_ofW HT_.out HW_.out (by kernel_rfl)) hHeld ?_
        refine takeA 7 135 #[true, true, true, true, true, true, true, true, true, false, false, false, false] (take_ofW HT_.out HW_.out (by kernel_rfl)) hHeld ?_
        refine pureA 9 137 #[true, true, true, true, true, true, true, true, true, true, false, false, false] (any_of HT_.out (by kernel_rfl)) ?_
        refine one_ (i := 10) (N := some 138) #[true, true, true, true, true, true, true, true, true, true, true, false, false] rfl rfl (one_of HT_.out (by kernel_rfl)) (by decide) (fun K hK => ?_)
        refine Kd.R_lit_step k60 _ 60 ?hg (N := 138) ?hd (xs := ([(⟨1, x124001_3, x124002_3, a1⟩ : S60)] : List (S60))) (inner := [.int .i64 1, .int .i64 x124001_3, .int .i64 x124002_3, .int .i64 a1]) (ok := fun _ => True) (okp := fun _ => True) ?hr ?hp (fun _ hk => hk) trivial (Below.refl _ _) (Nat.le_refl _) (by simp) ?_; (case hd => rfl); (case hg => rfl); (case hr => first | (go_simp; done) | (go_simp; rfl)); (case hp => exact (Reps.c4 (show Kd.M k60 _ _ _ (⟨1, x124001_3, x124002_3, a1⟩ : S60) [.int .i64 1, .int .i64 x124001_3, .int .i64 x124002_3, .int .i64 a1] from (k60_mkM _ _ _ (⟨1, x124001_3, x124002_3, a1⟩ : S60) )) (Reps.none _ _)))
        intro v131 w154 ho155 hb hg_ hnew_
        clear hg_ hnew_
        (first | rw [← Ny130.out] at ho155 | (simp only [Int.reduceToNat] at ho155; rw [← Ny130.out] at ho155))
        have HO132 := Aside0.mk (Kd.R_lower ho155 (below_size (qs HB))); replace BK117 := bkb BK117 hb; replace BK118 := bkb BK118 hb; replace BK119 := bkb BK119 hb; replace BK123 := bkb BK123 hb; replace HB := bst HB hb; clear hb ho155
        obtain ⟨Ao156, co156, eo156⟩ := Kd.R_slice HO132.out
        (first | subst eo156 | (injection eo156 with f1_ f2_ f3_; have f4_ := f1_.symm; have f5_ := f3_.symm; clear f1_ f2_ f3_; subst f4_; subst f5_))
        refine hK.out _ _ ⟨bc BK123 0, bc BK123 1, bc BK123 2, bc BK123 3, bc BK123 4, bc BK123 5, bc BK123 6⟩ (fun hHeld => ?_)
        clear hK K
        refine normP ?_
        refine pureA 11 139 #[true, true, true, true, true, true, true, true, true, true, true, true, false] (any_of HT_.out (by kernel_rfl)) ?_
        refine last_ (i := 12) (N := none) #[true, true, true, true, true, true, true, true, true, true, true, true, true] rfl rfl (one_of HT_.out (by kernel_rfl)) (by decide) (fun K hK => ?_)
        have hs157 := b6 BK123
        have hfs157 := blk_frozen BK123.out 6
        have hns157_0 := NB117_123.out
        have hns157_1 := NB118_123.out
        have hns157_2 := NB119_123.out
        have hms157_0 := NB123_117.out
        have hms157_1 := NB123_118.out
        have hms157_2 := NB123_119.out
        refine skip_ (w1 := ?_) (by rfl) rfl ?_ ?_
        rotate_left
        ·go_simp
         rfl
        refine hK.out _ _ ?_
        clear hK K
        refine done_ (done_of HT_.out (by kernel_rfl)) ?_
        have hcz158_0 := b0 BK123
        have hcz158_1 := b1 BK123
        have hcz158_2 := b2 BK123
        have hcz158_3 := b3 BK123
        have hcz158_4 := b4 BK123
        have hcz158_5 := b5 BK123
        have hcz158_6 := b6 BK123
        have hfz158_0 := blk_frozen BK123.out 0
        have hfz158_1 := blk_frozen BK123.out 1
        have hfz158_2 := blk_frozen BK123.out 2
        have hfz158_3 := blk_frozen BK123.out 3
        have hfz158_4 := blk_frozen BK123.out 4
        have hfz158_5 := blk_frozen BK123.out 5
        have hfz158_6 := blk_frozen BK123.out 6
        have hnb159 := NB119_117.out
        have hnc159 := NB117_119.out
        have hnb160 := NB119_118.out
        have hnc160 := NB118_119.out
        have hcz161_0 := b0 BK119
        have hcz161_1 := b1 BK119
        have hcz161_2 := b2 BK119
        have hcz161_3 := b3 BK119
        have hcz161_4 := b4 BK119
        have hcz161_5 := b5 BK119
        have hcz161_6 := b6 BK119
        have hfz161_0 := blk_frozen BK119.out 0
        have hfz161_1 := blk_frozen BK119.out 1
        have hfz161_2 := blk_frozen BK119.out 2
        have hfz161_3 := blk_frozen BK119.out 3
        have hfz161_4 := blk_frozen BK119.out 4
        have hfz161_5 := blk_frozen BK119.out 5
        have hfz161_6 := blk_frozen BK119.out 6
        try go_wp2
        refine bodyPost_ret (results_cell_row rfl _ _ gb119 32 #[.bool true, .int .i64 x124001_3, .int .i64 x124002_3, .int .i64 x124003_2, .int .i64 a1, .int .i64 x124005_2, .slice Ao156 y130.length co156] (0, 0) _ rfl (by refine qz ?_; refine blk_put (cs := #[.bool true, .int .i64 x124001_3, .int .i64 x124002_3, .int .i64 x124003_2, .int .i64 a1, .int .i64 x124005_2, .slice none 0 0]) ?_ 6 _ rfl; refine qz ?_; refine blk_put (cs := #[.bool true, .int .i64 x124001_3, .int .i64 x124002_3, .int .i64 x124003_2, .int .i64 a1, .int .i64 0, .slice none 0 0]) ?_ 5 _ rfl; refine qz ?_; refine blk_put (cs := #[.bool true, .int .i64 x124001_3, .int .i64 x124002_3, .int .i64 x124003_2, .int .i64 0, .int .i64 0, .slice none 0 0]) ?_ 4 _ rfl; refine qz ?_; refine blk_put (cs := #[.bool true, .int .i64 x124001_3, .int .i64 x124002_3, .int .i64 0, .int .i64 0, .int .i64 0, .slice none 0 0]) ?_ 3 _ rfl; refine qz ?_; refine blk_put (cs := #[.bool true, .int .i64 x124001_3, .int .i64 0, .int .i64 0, .int .i64 0, .int .i64 0, .slice none 0 0]) ?_ 2 _ rfl; refine qz ?_; refine blk_put (cs := #[.bool true, .int .i64 0, .int .i64 0, .int .i64 0, .int .i64 0, .int .i64 0, .slice none 0 0]) ?_ 1 _ rfl; refine qz ?_; refine blk_put (cs := #[.bool false, .int .i64 0, .int .i64 0, .int .i64 0, .int .i64 0, .int .i64 0, .slice none 0 0]) ?_ 0 _ rfl; exact qB BK119) Try.underlying32 rfl (by kernel_rfl)) rfl ?_
        exact ⟨_, by first | rfl | (simp [*, errW_none, errW_some] <;> rfl), by (with_reducible repeat (first | apply Kd.R_alloc | apply Kd.R_drewN | apply Kd.R_drew)); exact Kd.R_mono (Kd.R_far (p := ⟨gb119, 6, none⟩) (Kd.R_far (p := ⟨gb119, 5, none⟩) (Kd.R_far (p := ⟨gb119, 4, none⟩) (Kd.R_far (p := ⟨gb119, 3, none⟩) (Kd.R_far (p := ⟨gb119, 2, none⟩) (Kd.R_far (p := ⟨gb119, 1, none⟩) (Kd.R_far (p := ⟨gb119, 0, none⟩) (Kd.R_far (p := ⟨gb123, 6, none⟩) (Kd.R_types (Kd.R_types HO132.out BK123.out (by decide)) BK119.out (by decide)) (fun _ hk => hk.1.2) (.slice Ao156 y130.length co156)) (fun _ hk => hk.2) (.bool true)) (fun _ hk => hk.2) (.int .i64 x124001_3)) (fun _ hk => hk.2) (.int .i64 x124002_3)) (fun _ hk => hk.2) (.int .i64 x124003_2)) (fun _ hk => hk.2) (.int .i64 a1)) (fun _ hk => hk.2) (.int .i64 x124005_2)) (fun _ hk => hk.2) (.slice Ao156 y130.length co156)) (fun _ hk => trivial), (qs HB)⟩
       rw [if_neg c146] at H
       have c146b0 : decide (a0_0 ≤ (wrap64 (a1 - a2_3))) = false := decide_eq_false c146
       clear c146
       simp only [Option.some.injEq, Prod.mk.injEq] at H
       obtain ⟨rfl, rfl, rfl, rfl, rfl, rfl, rfl⟩ := H
       try go_wp2
       replace BK117 := Aside0.mk (blk_drew BK117.out); replace BK118 := Aside0.mk (blk_drew BK118.out); replace BK119 := Aside0.mk (blk_drew BK119.out); replace BK123 := Aside0.mk (blk_drew BK123.out); replace HB := Aside0.mk (below_drew1 HB.out)
       refine start_ (n := 14) (S := fun w' => w'.cell? ⟨gb123, 0, none⟩ = some (.bool true) ∧ w'.cell? ⟨gb123, 1, none⟩ = some (.int .i64 x124001_3) ∧ w'.cell? ⟨gb123, 2, none⟩ = some (.int .i64 x124002_3) ∧ w'.cell? ⟨gb123, 3, none⟩ = some (.int .i64 x124003_2) ∧ w'.cell? ⟨gb123, 4, none⟩ = some (.int .i64 a2_3) ∧ w'.cell? ⟨gb123, 5, none⟩ = some (.int .i64 x124005_2) ∧ w'.cell? ⟨gb123, 6, none⟩ = some (.slice none 0 0) ∧ w'.cell? ⟨gb117, 0, none⟩ = some (.int .i64 a0_0) ∧ w'.cell? ⟨gb117, 1, none⟩ = some (.int .i64 a0_1) ∧ w'.cell? ⟨gb117, 2, none⟩ = some (.int .i64 a0_2)) (ds := []) #[false, false, false, false, false, false, false, false, false, false, false, false, false, false] (by kernel_rfl) rfl rfl ⟨bc BK123 0, bc BK123 1, bc BK123 2, bc BK123 3, bc BK123 4, bc BK123 5, bc BK123 6, bc BK117 0, bc BK117 1, bc BK117 2⟩ (fun hHeld => ?_); refine with_tabW spec_BoxTick.tab20 spec_BoxTick.bits20 (fun HT_ HW_ => ?_)
       generalize wr.drew = w162 at BK117 BK118 BK119 BK123 HB hHeld ⊢
       refine pureA 0 110 #[true, false, false, false, false, false, false, false, false, false, false, false, false, false] (any_of HT_.out (by kernel_rfl)) ?_
       refine pureA 1 111 #[true, true, false, false, false, false, false, false, false, false, false, false, false, false] (any_of HT_.out (by kernel_rfl)) ?_
       refine pureA 2 112 #[true, true, true, false, false, false, false, false, false, false, false, false, false, false] (any_of HT_.out (by kernel_rfl)) ?_
       refine pureA 3 113 #[true, true, true, true, false, false, false, false, false, false, false, false, false, false] (any_of HT_.out (by kernel_rfl)) ?_
       refine pureA 4 114 #[true, true, true, true, true, false, false, false, false, false, false, false, false, false] (any_of HT_.out (by kernel_rfl)) ?_
       refine pureA 5 115 #[true, true, true, true, true, true, false, false, false, false, false, false, false, false] (any_of HT_.out (by kernel_rfl)) ?_
       refine pureA 6 116 #[true, true, true, true, true, true, true, false, false, false, false, false, false, false] (any_of HT_.out (by kernel_rfl)) ?_
       refine pureA 7 117 #[true, true, true, true, true, true, true, true, false, false, false, false, false, false] (any_of HT_.out (by kernel_rfl)) ?_
       refine pureA 10 120 #[true, true, true, true, true, true, true, true, false, false, true, false, false, false] (any_of HT_.out (by kernel_rfl)) ?_
       refine takeA 8 118 #[true, true, true, true, true, true, true, true, true, false, true, false, false, false] (take_ofW HT_.out HW_.out (by kernel_rfl)) hHeld ?_
       refine pureA 9 119 #[true, true, true, true, true, true, true, true, true, true, true, false, false, false] (any_of HT_.out (by kernel_rfl)) ?_
       refine takeA 11 121 #[true, true, true, true, true, true, true, true, true, true, true, true, false, false] (take_ofW HT_.out HW_.out (by kernel_rfl)) hHeld ?_
       refine pureA 12 122 #[true, true, true, true, true, true, true, true, true, true, true, true, true, false] (any_of HT_.out (by kernel_rfl)) ?_
       refine pureA 13 123 #[true, true, true, true, true, true, true, true, true, true, true, true, true, true] (any_of HT_.out (by kernel_rfl)) ?_
       refine done_ (done_of HT_.out (by kernel_rfl)) ?_
       have hnb163 := NB123_117.out
       have hnc163 := NB117_123.out
       have hnb164 := NB123_118.out
       have hnc164 := NB118_123.out
       have hnb165 := NB123_119.out
       have hnc165 := NB119_123.out
       have hcz166_0 := b0 BK123
       have hcz166_1 := b1 BK123
       have hcz166_2 := b2 BK123
       have hcz166_3 := b3 BK123
       have hcz166_4 := b4 BK123
       have hcz166_5 := b5 BK123
       have hcz166_6 := b6 BK123
       have hfz166_0 := blk_frozen BK123.out 0
       have hfz166_1 := blk_frozen BK123.out 1
       have hfz166_2 := blk_frozen BK123.out 2
       have hfz166_3 := blk_frozen BK123.out 3
       have hfz166_4 := blk_frozen BK123.out 4
       have hfz166_5 := blk_frozen BK123.out 5
       have hfz166_6 := blk_frozen BK123.out 6
       have hnb167 := NB119_117.out
       have hnc167 := NB117_119.out
       have hnb168 := NB119_118.out
       have hnc168 := NB118_119.out
       have hcz169_0 := b0 BK119
       have hcz169_1 := b1 BK119
       have hcz169_2 := b2 BK119
       have hcz169_3 := b3 BK119
       have hcz169_4 := b4 BK119
       have hcz169_5 := b5 BK119
       have hcz169_6 := b6 BK119
       have hfz169_0 := blk_frozen BK119.out 0
       have hfz169_1 := blk_frozen BK119.out 1
       have hfz169_2 := blk_frozen BK119.out 2
       have hfz169_3 := blk_frozen BK119.out 3
       have hfz169_4 := blk_frozen BK119.out 4
       have hfz169_5 := blk_frozen BK119.out 5
       have hfz169_6 := blk_frozen BK119.out 6
       try go_wp2
       refine bodyPost_ret (results_cell_row rfl _ _ gb119 32 #[.bool true, .int .i64 x124001_3, .int .i64 x124002_3, .int .i64 x124003_2, .int .i64 a2_3, .int .i64 x124005_2, .slice none 0 0] (0, 0) _ rfl (by refine qz ?_; refine blk_put (cs := #[.bool true, .int .i64 x124001_3, .int .i64 x124002_3, .int .i64 x124003_2, .int .i64 a2_3, .int .i64 x124005_2, .slice none 0 0]) ?_ 6 _ rfl; refine qz ?_; refine blk_put (cs := #[.bool true, .int .i64 x124001_3, .int .i64 x124002_3, .int .i64 x124003_2, .int .i64 a2_3, .int .i64 0, .slice none 0 0]) ?_ 5 _ rfl; refine qz ?_; refine blk_put (cs := #[.bool true, .int .i64 x124001_3, .int .i64 x124002_3, .int .i64 x124003_2, .int .i64 0, .int .i64 0, .slice none 0 0]) ?_ 4 _ rfl; refine qz ?_; refine blk_put (cs := #[.bool true, .int .i64 x124001_3, .int .i64 x124002_3, .int .i64 0, .int .i64 0, .int .i64 0, .slice none 0 0]) ?_ 3 _ rfl; refine qz ?_; refine blk_put (cs := #[.bool true, .int .i64 x124001_3, .int .i64 0, .int .i64 0, .int .i64 0, .int .i64 0, .slice none 0 0]) ?_ 2 _ rfl; refine qz ?_; refine blk_put (cs := #[.bool true, .int .i64 0, .int .i64 0, .int .i64 0, .int .i64 0, .int .i64 0, .slice none 0 0]) ?_ 1 _ rfl; refine qz ?_; refine blk_put (cs := #[.bool false, .int .i64 0, .int .i64 0, .int .i64 0, .int .i64 0, .int .i64 0, .slice none 0 0]) ?_ 0 _ rfl; refine qz ?_; exact BK119.out) Try.underlying32 rfl (by kernel_rfl)) rfl ?_
       exact ⟨_, by first | rfl | (simp [*, errW_none, errW_some] <;> rfl), by first | exact Kd.R_nil _ _ _ _ _ | exact Kd.N_nil _ _ _ _ _ | exact Kd.V_nil _ _ _ _ _ | exact Kd.Q_nil _ _ _ _ _ | exact Kd.S_nil _ _ _ _ _, (qs HB)⟩
end Go.Proofs.Ytndffnacbfdnoaa.PAll
