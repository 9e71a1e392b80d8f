-- Lines of PAllx15 that this claim uses.
import Derived.Test.YtndffnacbfdnoaaENSqd
import Derived.Test.YtndffnacbfdnoaaENSqc
import Derived.Test.YtndffnacbfdnoaaENSq
import Derived.Test.YtndffnacbfdnoaaENPAllx0
namespace Go.Proofs.Ytndffnacbfdnoaa.PAll
open Go.RowKit Go.Proofs.YtndffnacbfdnoaaW.PrintWords Go.Proofs.YtndffnacbfdnoaaW.PrintLast Go.Proofs.YtndffnacbfdnoaaW.PrintMore
attribute [local go_sem] max2_int min2_int max_two min_two max_three min_three max_four min_four   -- for this text's walks alone
set_option linter.unusedVariables false
set_option linter.unusedSimpArgs false
def IsS108 (w0 W : World) (g : Nat) (f0 : List Int) (f1 : Int) (f2 : Int) : Prop := ∃ A0 c0, W.heap[g]? = some (.cells #[.slice A0 f0.length c0, .int .i64 f1, .int .u64 f2] 108 (0, 0)) ∧ w0.heap.size ≤ g ∧ Kd.C (Kd.int .u8) w0 A0 f0.length f0
theorem IsS108.grown {w0 W : World} {g : Nat} {f0 : List Int} {f1 : Int} {f2 : Int} {W1 : World} {row : Option Nat} (h : IsS108 w0 W g f0 f1 f2) (hw : W.grownBy W1 row) (hne : some g ≠ row) : IsS108 w0 W1 g f0 f1 f2 := by
 obtain ⟨A0, c0, hb, hg, hr0⟩ := h
 exact ⟨A0, c0, blk_grown hb hw hne, hg, hr0⟩
theorem IsS108.kept {w0 W : World} {g : Nat} {f0 : List Int} {f1 : Int} {f2 : Int} {W1 : World} {S : Nat → Prop} (h : IsS108 w0 W g f0 f1 f2) (hk : Kept W W1 S) (hne : ¬ S g) : IsS108 w0 W1 g f0 f1 f2 := by
 obtain ⟨A0, c0, hb, hg, hr0⟩ := h
 exact ⟨A0, c0, blk_kept hb hk hne, hg, hr0⟩
theorem IsS108.below {w0 W : World} {g : Nat} {f0 : List Int} {f1 : Int} {f2 : Int} {W1 : World} (h : IsS108 w0 W g f0 f1 f2) (hw : Below W.heap.size W W1) : IsS108 w0 W1 g f0 f1 f2 := h.grown (grown_of_below hw none) (by simp)
theorem IsS108.alloc {w0 W : World} {g : Nat} {f0 : List Int} {f1 : Int} {f2 : Int} (h : IsS108 w0 W g f0 f1 f2) (o : Obj) : IsS108 w0 (W.alloc o) g f0 f1 f2 := h.below (below_alloc (Below.refl _ _) o)
theorem IsS108.drewN {w0 W : World} {g : Nat} {f0 : List Int} {f1 : Int} {f2 : Int} (h : IsS108 w0 W g f0 f1 f2) (m : Nat) : IsS108 w0 (W.drewN m) g f0 f1 f2 := h
theorem IsS108.drew {w0 W : World} {g : Nat} {f0 : List Int} {f1 : Int} {f2 : Int} (h : IsS108 w0 W g f0 f1 f2) : IsS108 w0 W.drew g f0 f1 f2 := h
theorem IsS108.at_ {w0 W : World} {g : Nat} {f0 : List Int} {f1 : Int} {f2 : Int} {w' : World} {m : Nat} (hq : W.drewN m = w') (h : IsS108 w0 W g f0 f1 f2) : IsS108 w0 w' g f0 f1 f2 := by subst hq; exact IsS108.drewN h m
theorem IsS108.apart {w0 W : World} {g : Nat} {f0 : List Int} {f1 : Int} {f2 : Int} {α : Type} {d : Kd α} {e : Nat} {base : Nat} {ok : Nat → Prop} {v : Value} {xs : List α} (h : IsS108 w0 W g f0 f1 f2) (ho : d.R e W base ok v xs) (ht : ∀ q, q ∈ e :: d.E → q ≠ 108) : d.R e W base (fun k => ok k ∧ k ≠ g) v xs := by
 obtain ⟨A0, c0, hb, hg, hr0⟩ := h
 exact Kd.R_types ho hb ht
theorem IsS108.own_ne {w0 W : World} {g : Nat} {f0 : List Int} {f1 : Int} {f2 : Int} {α : Type} {d : Kd α} {e : Nat} {base : Nat} {ok : Nat → Prop} {v : Value} {xs : List α} (h : IsS108 w0 W g f0 f1 f2) (ho : d.R e W base ok v xs) (ht : e ≠ 108) : some g ≠ v.ownBlock := by
 obtain ⟨A0, c0, hb, hg, hr0⟩ := h
 exact Kd.R_ne ho hb ht
theorem IsS108.lt {w0 W : World} {g : Nat} {f0 : List Int} {f1 : Int} {f2 : Int} (h : IsS108 w0 W g f0 f1 f2) : g < W.heap.size := by
 obtain ⟨A0, c0, hb, hg, hr0⟩ := h
 exact blk_lt hb
theorem IsS108.ge {w0 W : World} {g : Nat} {f0 : List Int} {f1 : Int} {f2 : Int} (h : IsS108 w0 W g f0 f1 f2) : w0.heap.size ≤ g := by
 obtain ⟨A0, c0, hb, hg, hr0⟩ := h
 exact hg
theorem IsS108.far {w0 W : World} {g : Nat} {f0 : List Int} {f1 : Int} {f2 : Int} {p : Addr} (h : IsS108 w0 W g f0 f1 f2) (hne : g ≠ p.block) (u : Value) : IsS108 w0 (W.setCell p u) g f0 f1 f2 := by
 obtain ⟨A0, c0, hb, hg, hr0⟩ := h
 exact ⟨A0, c0, blk_far hb hne u, hg, hr0⟩
theorem cellS108_0 {W : World} {g : Nat} {A0 : Option Addr} {c0 : Nat} {f0 : List Int} {f1 : Int} {f2 : Int} (h : W.heap[g]? = some (.cells #[.slice A0 f0.length c0, .int .i64 f1, .int .u64 f2] 108 (0, 0))) : W.cell? ⟨g, 0, none⟩ = some (.slice A0 f0.length c0) := (blk_cell h 0).trans rfl
theorem cellS108_1 {W : World} {g : Nat} {A0 : Option Addr} {c0 : Nat} {f0 : List Int} {f1 : Int} {f2 : Int} (h : W.heap[g]? = some (.cells #[.slice A0 f0.length c0, .int .i64 f1, .int .u64 f2] 108 (0, 0))) : W.cell? ⟨g, 1, none⟩ = some (.int .i64 f1) := (blk_cell h 1).trans rfl
theorem IsS108.set_1 {w0 W : World} {g : Nat} {f0 : List Int} {f1 : Int} {f2 : Int} (h : IsS108 w0 W g f0 f1 f2) (x : Int) : IsS108 w0 (W.setCell ⟨g, 1, none⟩ (.int .i64 x)) g f0 x f2 := by
 obtain ⟨A0, c0, hb, hg, hr0⟩ := h
 exact ⟨A0, c0, by simpa using blk_set hb 1 (.int .i64 x), hg, hr0⟩
theorem cellS108_2 {W : World} {g : Nat} {A0 : Option Addr} {c0 : Nat} {f0 : List Int} {f1 : Int} {f2 : Int} (h : W.heap[g]? = some (.cells #[.slice A0 f0.length c0, .int .i64 f1, .int .u64 f2] 108 (0, 0))) : W.cell? ⟨g, 2, none⟩ = some (.int .u64 f2) := (blk_cell h 2).trans rfl
theorem IsS108.set_2 {w0 W : World} {g : Nat} {f0 : List Int} {f1 : Int} {f2 : Int} (h : IsS108 w0 W g f0 f1 f2) (x : Int) : IsS108 w0 (W.setCell ⟨g, 2, none⟩ (.int .u64 x)) g f0 f1 x := by
 obtain ⟨A0, c0, hb, hg, hr0⟩ := h
 exact ⟨A0, c0, by simpa using blk_set hb 2 (.int .u64 x), hg, hr0⟩
theorem qi {w0 w1 w2 : World} {g : Nat} {f0 : List Int} {f1 f2 : Int} (h : Aside0 (IsS108 w0 w1 g f0 f1 f2)) {f1' f2' : Int} (q : IsS108 w0 w1 g f0 f1 f2 → IsS108 w0 w2 g f0 f1' f2' := by
    intro h_; repeat (first | (with_reducible first | exact h_ | apply IsS108.alloc | apply IsS108.drewN | apply IsS108.drew | apply IsS108.set_1 | apply IsS108.set_2 | refine IsS108.far ?_ (Aside0.out (by assumption)) _) | exact h_)) : IsS108 w0 w2 g f0 f1' f2' := q h.out
theorem qz {w W W2 : World} (h : Aside0 (Below w.heap.size w W)) (q : Below w.heap.size w W → Below w.heap.size w W2 := by
    intro h_; repeat (first | (with_reducible first | exact h_ | apply below_alloc | apply pw_below_drewN | apply below_drew1 | refine below_set ?_ (IsS108.ge (Aside0.out (by assumption))) | refine below_set ?_ (Aside0.out (by assumption))) | exact h_)) : Below w.heap.size w W2 := q h.out
def spec_l4Cur_next.f (s0_0 : List Int) (s0_1 : Int) (s0_2 : Int) : Option (Int × Int × Int) := if s0_1 < (s0_0.length : Int) then (if 0 ≤ s0_1 then (some (wrap64 (rd s0_0 s0_1), wrap64 (s0_1 + 1), IntKind.u64.wrap ((IntKind.u64.wrap ((IntKind.u64.wrap (s0_2 * 6364136223846793005)) + (IntKind.u64.wrap (rd s0_0 s0_1)))) + 1442695040888963407))) else (none)) else (some (wrap64 (Go.bits .and .u64 ((IntKind.u64.wrap ((IntKind.u64.wrap (s0_2 * 6364136223846793005)) + 1442695040888963407)) / 1099511627776) 255), wrap64 (s0_1 + 1), IntKind.u64.wrap ((IntKind.u64.wrap (s0_2 * 6364136223846793005)) + 1442695040888963407)))
set_option maxHeartbeats 8000000 in
set_option maxRecDepth 100000 in
theorem spec_l4Cur_next.calls (g : Nat) (s0_0 : List Int) (s0_1 : Int) (s0_2 : Int) (r1 : Int) (r2 : Int) (r3 : Int) (w0 w : World) (hI : IsS108 w0 w g s0_0 s0_1 s0_2) (hB : Below w0.heap.size w0 w) (h : spec_l4Cur_next.f s0_0 s0_1 s0_2 = some (r1, r2, r3)) :
  Calls Try.prog 98 #[.pointer (some ⟨g, 0, none⟩)] w fun e w' => e = .returned (.int .i64 r1) ∧ IsS108 w0 w' g s0_0 r2 r3 ∧ Below w0.heap.size w0 w' ∧ KeepBut w w' g none := by
 have HI0 := Aside0.mk hI
 have HK := Aside0.mk (KeepBut.refl w g none)
 have HL := Aside0.mk hB.size
 clear hI
 have HW0 := Aside0.mk hB.size
 have HB := Aside0.mk hB
 clear hB
 have H : (if s0_1 < (s0_0.length : Int) then (if 0 ≤ s0_1 then (some (wrap64 (rd s0_0 s0_1), wrap64 (s0_1 + 1), IntKind.u64.wrap ((IntKind.u64.wrap ((IntKind.u64.wrap (s0_2 * 6364136223846793005)) + (IntKind.u64.wrap (rd s0_0 s0_1)))) + 1442695040888963407))) else (none)) else (some (wrap64 (Go.bits .and .u64 ((IntKind.u64.wrap ((IntKind.u64.wrap (s0_2 * 6364136223846793005)) + 1442695040888963407)) / 1099511627776) 255), wrap64 (s0_1 + 1), IntKind.u64.wrap ((IntKind.u64.wrap (s0_2 * 6364136223846793005)) + 1442695040888963407)))) = some (r1, r2, r3) := h
 clear h
 by_cases c2 : s0_1 < (s0_0.length : Int)
 ·rw [if_pos c2] at H
  have c2b0 : decide (s0_1 < (s0_0.length : Int)) = true := decide_eq_true c2
  clear c2
  by_cases c3 : 0 ≤ s0_1
  ·rw [if_pos c3] at H
   have c3b0 : decide (0 ≤ s0_1) = true := decide_eq_true c3
   clear c3
   simp only [Option.some.injEq, Prod.mk.injEq] at H
   obtain ⟨rfl, rfl, rfl⟩ := H
   obtain ⟨ASz4_0, cSz4_0, HGz4, hgz4, HSz4_0⟩ := HI0.out
   have hcz4_0 := cellS108_0 HGz4
   have hcz4_1 := cellS108_1 HGz4
   have hcz4_2 := cellS108_2 HGz4
   have hfz4_1 := blk_frozen HGz4 1
   have hfz4_2 := blk_frozen HGz4 2
   clear HGz4 hgz4
   have p443 : 0 ≤ (s0_1 : Int) := of_decide_eq_true (by first | (with_reducible assumption) | assumption)
   have q443 : s0_1 < (s0_0.length : Int) := of_decide_eq_true (by first | (with_reducible assumption) | assumption)
   obtain ⟨ad443, e443, hx443_0⟩ := Kd.at_int HSz4_0 s0_1 p443 q443
   cases e443
   replace hx443_0 := pw_cell_below HB.out hx443_0
   replace p443 := eq_true p443
   replace q443 := eq_true q443
   go_enter Try.func98, Try.ntmps98
   go_wp2
   repeat (go_quiet (fail); try go_wp2)
   go_ret
   exact ⟨by first | rfl | (simp [errW_none, errW_some] <;> rfl) | (simp [*, errW_none, errW_some] <;> rfl), (qi HI0), (qz HB), (qk HK)⟩
  rw [if_neg c3] at H
  exact absurd H (by simp)
 rw [if_neg c2] at H
 have c2b0 : decide (s0_1 < (s0_0.length : Int)) = false := decide_eq_false c2
 clear c2
 simp only [Option.some.injEq, Prod.mk.injEq] at H
 obtain ⟨rfl, rfl, rfl⟩ := H
 obtain ⟨ASz5_0, cSz5_0, HGz5, hgz5, HSz5_0⟩ := HI0.out
 have hcz5_0 := cellS108_0 HGz5
 have hcz5_1 := cellS108_1 HGz5
 have hcz5_2 := cellS108_2 HGz5
 have hfz5_1 := blk_frozen HGz5 1
 have hfz5_2 := blk_frozen HGz5 2
 clear HGz5 hgz5
 go_enter Try.func98, Try.ntmps98
 go_wp2
 repeat (go_quiet (fail); try go_wp2)
 go_ret
 exact ⟨by first | rfl | (simp [errW_none, errW_some] <;> rfl) | (simp [*, errW_none, errW_some] <;> rfl), (qi HI0), (qz HB), (qk HK)⟩
def spec_l4Cur_pick.f (s0_0 : List Int) (s0_1 : Int) (s0_2 : Int) (a1 : Int) : Option (Int × Int × Int) := if a1 ≤ 1 then (some (0, s0_1, s0_2)) else ((spec_l4Cur_next.f s0_0 s0_1 s0_2).bind fun bt444 => (if a1 > 200 then ((spec_l4Cur_next.f s0_0 bt444.2.1 bt444.2.2).bind fun bt447 => (if a1 = 0 then (none) else (some (Int.tmod (wrap64 ((wrap64 (bt444.1 * 256)) + bt447.1)) a1, bt447.2.1, bt447.2.2)))) else (if a1 = 0 then (none) else (some (Int.tmod bt444.1 a1, bt444.2.1, bt444.2.2)))))
set_option maxHeartbeats 8000000 in
set_option maxRecDepth 100000 in
theorem spec_l4Cur_pick.calls (g : Nat) (s0_0 : List Int) (s0_1 : Int) (s0_2 : Int) (a1 : Int) (r1 : Int) (r2 : Int) (r3 : Int) (w0 w : World) (hI : IsS108 w0 w g s0_0 s0_1 s0_2) (hB : Below w0.heap.size w0 w) (h : spec_l4Cur_pick.f s0_0 s0_1 s0_2 a1 = some (r1, r2, r3)) :
  Calls Try.prog 72 #[.pointer (some ⟨g, 0, none⟩), .int .i64 a1] w fun e w' => e = .returned (.int .i64 r1) ∧ IsS108 w0 w' g s0_0 r2 r3 ∧ Below w0.heap.size w0 w' ∧ KeepBut w w' g none := by
 have HI0 := Aside0.mk hI
 have HK := Aside0.mk (KeepBut.refl w g none)
 have HL := Aside0.mk hB.size
 clear hI
 have HW0 := Aside0.mk hB.size
 have HB := Aside0.mk hB
 clear hB
 have H : (if a1 ≤ 1 then (some (0, s0_1, s0_2)) else ((spec_l4Cur_next.f s0_0 s0_1 s0_2).bind fun bt444 => (if a1 > 200 then ((spec_l4Cur_next.f s0_0 bt444.2.1 bt444.2.2).bind fun bt447 => (if a1 = 0 then (none) else (some (Int.tmod (wrap64 ((wrap64 (bt444.1 * 256)) + bt447.1)) a1, bt447.2.1, bt447.2.2)))) else (if a1 = 0 then (none) else (some (Int.tmod bt444.1 a1, bt444.2.1, bt444.2.2)))))) = some (r1, r2, r3) := h
 clear h
 by_cases c3 : a1 ≤ 1
 ·rw [if_pos c3] at H
  have c3b0 : decide (a1 ≤ 1) = true := decide_eq_true c3
  clear c3
  simp only [Option.some.injEq, Prod.mk.injEq] at H
  obtain ⟨rfl, rfl, rfl⟩ := H
  go_enter Try.func72, Try.ntmps72
  go_wp2
  go_ret
  exact ⟨by first | rfl | (simp [errW_none, errW_some] <;> rfl) | (simp [*, errW_none, errW_some] <;> rfl), (qi HI0), (qz HB), (qk HK)⟩
 rw [if_neg c3] at H
 have c3b0 : decide (a1 ≤ 1) = false := decide_eq_false c3
 clear c3
 replace H := Option.bind_eq_some_iff.mp H
 obtain ⟨⟨t444, t445, t446⟩, A40, H⟩ := H
 replace H : (if a1 > 200 then ((spec_l4Cur_next.f s0_0 t445 t446).bind fun bt447 => (if a1 = 0 then (none) else (some (Int.tmod (wrap64 ((wrap64 (t444 * 256)) + bt447.1)) a1, bt447.2.1, bt447.2.2)))) else (if a1 = 0 then (none) else (some (Int.tmod t444 a1, t445, t446)))) = some (r1, r2, r3) := H
 have A4 := Aside0.mk A40
 clear A40
 by_cases c5 : a1 > 200
 ·rw [if_pos c5] at H
  have c5b0 : decide (200 < a1) = true := decide_eq_true c5
  clear c5
  replace H := Option.bind_eq_some_iff.mp H
  obtain ⟨⟨t447, t448, t449⟩, A60, H⟩ := H
  replace H : (if a1 = 0 then (none) else (some (Int.tmod (wrap64 ((wrap64 (t444 * 256)) + t447)) a1, t448, t449))) = some (r1, r2, r3) := H
  have A6 := Aside0.mk A60
  clear A60
  by_cases c7 : a1 = 0
  ·rw [if_pos c7] at H
   exact absurd H (by simp)
  rw [if_neg c7] at H
  have c7b0 : (a1 == 0) = false := beq_eq_false_iff_ne.mpr c7
  have c7b1 : (a1 != 0) = true := bne_iff_ne.mpr c7
  simp only [Option.some.injEq, Prod.mk.injEq] at H
  obtain ⟨rfl, rfl, rfl⟩ := H
  go_enter Try.func72, Try.ntmps72
  go_wp2_with (first | ((with_reducible refine gate_callee (f := 98) rfl ?_); refine goesLA (some 9) rfl Try.func98 #[.pointer (some ⟨g, 0, none⟩)] ?_; (with_reducible refine (spec_l4Cur_next.calls g s0_0 s0_1 s0_2 t444 t445 t446 w0 _ ?side1 ?side2 A4.out).mono ?_); (case side1 => exact qi HI0); (case side2 => exact qz HB); rintro e w8 ⟨rfl, hi, hb, hk⟩; refine ⟨_, rfl, ?_⟩; replace HK := Aside0.mk (KeepBut.trans (qk HK) hk (.inl rfl)); replace HB := Aside0.mk (hb); replace HI0 := Aside0.mk (hi); clear hb hk hi) | ((with_reducible refine gate_callee (f := 98) rfl ?_); refine goesLA (some 15) rfl Try.func98 #[.pointer (some ⟨g, 0, none⟩)] ?_; (with_reducible refine (spec_l4Cur_next.calls g s0_0 t445 t446 t447 t448 t449 w0 _ ?side1 ?side2 A6.out).mono ?_); (case side1 => exact qi HI0); (case side2 => exact qz HB); rintro e w9 ⟨rfl, hi, hb, hk⟩; refine ⟨_, rfl, ?_⟩; replace HK := Aside0.mk (KeepBut.trans (qk HK) hk (.inl rfl)); replace HB := Aside0.mk (hb); replace HI0 := Aside0.mk (hi); clear hb hk hi))
  go_ret
  exact ⟨by first | rfl | (simp [errW_none, errW_some] <;> rfl) | (simp [*, errW_none, errW_some] <;> rfl), (qi HI0), (qz HB), (qk HK)⟩
 rw [if_neg c5] at H
 have c5b0 : decide (200 < a1) = false := decide_eq_false c5
 clear c5
 by_cases c10 : a1 = 0
 ·rw [if_pos c10] at H
  exact absurd H (by simp)
 rw [if_neg c10] at H
 have c10b0 : (a1 == 0) = false := beq_eq_false_iff_ne.mpr c10
 have c10b1 : (a1 != 0) = true := bne_iff_ne.mpr c10
 simp only [Option.some.injEq, Prod.mk.injEq] at H
 obtain ⟨rfl, rfl, rfl⟩ := H
 go_enter Try.func72, Try.ntmps72
 go_wp2_with (first | ((with_reducible refine gate_callee (f := 98) rfl ?_); refine goesLA (some 9) rfl Try.func98 #[.pointer (some ⟨g, 0, none⟩)] ?_; (with_reducible refine (spec_l4Cur_next.calls g s0_0 s0_1 s0_2 t444 t445 t446 w0 _ ?side1 ?side2 A4.out).mono ?_); (case side1 => exact qi HI0); (case side2 => exact qz HB); rintro e w11 ⟨rfl, hi, hb, hk⟩; refine ⟨_, rfl, ?_⟩; replace HK := Aside0.mk (KeepBut.trans (qk HK) hk (.inl rfl)); replace HB := Aside0.mk (hb); replace HI0 := Aside0.mk (hi); clear hb hk hi))
 go_ret
 exact ⟨by first | rfl | (simp [errW_none, errW_some] <;> rfl) | (simp [*, errW_none, errW_some] <;> rfl), (qi HI0), (qz HB), (qk HK)⟩
def spec_l4Cur_rules.f (s0_0 : List Int) (s0_1 : Int) (s0_2 : Int) : Option (Int × Int × Int × Int × Int) := (spec_l4Cur_pick.f s0_0 s0_1 s0_2 6).bind fun bt451 => ((spec_l4Cur_pick.f s0_0 bt451.2.1 bt451.2.2 20).bind fun bt454 => ((spec_l4Cur_pick.f s0_0 bt454.2.1 bt454.2.2 (wrap64 ((wrap64 (1 + bt454.1)) + 1))).bind fun bt458 => (some (wrap64 (1 + bt451.1), wrap64 (1 + bt454.1), bt458.1, bt458.2.1, bt458.2.2))))
set_option maxHeartbeats 8000000 in
set_option maxRecDepth 100000 in
theorem spec_l4Cur_rules.calls (g : Nat) (s0_0 : List Int) (s0_1 : Int) (s0_2 : Int) (r1 : Int) (r2 : Int) (r3 : Int) (r4 : Int) (r5 : Int) (w0 w : World) (hI : IsS108 w0 w g s0_0 s0_1 s0_2) (hB : Below w0.heap.size w0 w) (h : spec_l4Cur_rules.f s0_0 s0_1 s0_2 = some (r1, r2, r3, r4, r5)) :
  Calls Try.prog 91 #[.pointer (some ⟨g, 0, none⟩)] w fun e w' => e = .returned (.agg #[.int .i64 r1, .int .i64 r2, .int .i64 r3]) ∧ IsS108 w0 w' g s0_0 r4 r5 ∧ Below w0.heap.size w0 w' ∧ KeepBut w w' g none := by
 have hu34 := Try.underlying34
 have HI0 := Aside0.mk hI
 have HK := Aside0.mk (KeepBut.refl w g none)
 have HL := Aside0.mk hB.size
 clear hI
 have HW0 := Aside0.mk hB.size
 have HB := Aside0.mk hB
 clear hB
 have H : ((spec_l4Cur_pick.f s0_0 s0_1 s0_2 6).bind fun bt451 => ((spec_l4Cur_pick.f s0_0 bt451.2.1 bt451.2.2 20).bind fun bt454 => ((spec_l4Cur_pick.f s0_0 bt454.2.1 bt454.2.2 (wrap64 ((wrap64 (1 + bt454.1)) + 1))).bind fun bt458 => (some (wrap64 (1 + bt451.1), wrap64 (1 + bt454.1), bt458.1, bt458.2.1, bt458.2.2))))) = some (r1, r2, r3, r4, r5) := h
 clear h
 replace H := Option.bind_eq_some_iff.mp H
 obtain ⟨⟨t451, t452, t453⟩, A20, H⟩ := H
 replace H : ((spec_l4Cur_pick.f s0_0 t452 t453 20).bind fun bt454 => ((spec_l4Cur_pick.f s0_0 bt454.2.1 bt454.2.2 (wrap64 ((wrap64 (1 + bt454.1)) + 1))).bind fun bt458 => (some (wrap64 (1 + t451), wrap64 (1 + bt454.1), bt458.1, bt458.2.1, bt458.2.2)))) = some (r1, r2, r3, r4, r5) := H
 have A2 := Aside0.mk A20
 clear A20
 replace H := Option.bind_eq_some_iff.mp H
 obtain ⟨⟨t454, t455, t456⟩, A30, H⟩ := H
 replace H : ((spec_l4Cur_pick.f s0_0 t455 t456 (wrap64 ((wrap64 (1 + t454)) + 1))).bind fun bt458 => (some (wrap64 (1 + t451), wrap64 (1 + t454), bt458.1, bt458.2.1, bt458.2.2))) = some (r1, r2, r3, r4, r5) := H
 have A3 := Aside0.mk A30
 clear A30
 replace H := Option.bind_eq_some_iff.mp H
 obtain ⟨⟨t458, t459, t460⟩, A40, H⟩ := H
 replace H : (some (wrap64 (1 + t451), wrap64 (1 + t454), t458, t459, t460)) = some (r1, r2, r3, r4, r5) := H
 have A4 := Aside0.mk A40
 clear A40
 simp only [Option.some.injEq, Prod.mk.injEq] at H
 obtain ⟨rfl, rfl, rfl, rfl, rfl⟩ := H
 go_enter Try.func91, Try.ntmps91
 go_wp2_with (first | ((with_reducible refine gate_dst (N := 2) rfl ?_); refine boxA #[.int .i64 0, .int .i64 0, .int .i64 0] 34 ?_; intro gb450 hg w5 hbox hb; replace HB := Aside0.mk (below_step (qz HB) hb); have BK450 := Aside0.mk (hbox); have GW450 := Aside0.mk ((by rw [hg]; exact (keep_size (w := w) (g := g) (row := none) (qk HK)) : w.heap.size ≤ gb450)); have GE450 := Aside0.mk ((Nat.le_trans HW0.out (by rw [hg]; exact (keep_size (w := w) (g := g) (row := none) (qk HK)) : w.heap.size ≤ gb450) : w0.heap.size ≤ gb450)); replace HK := Aside0.mk (KeepBut.trans (qk HK) (KeepBut.of_below hb g none) (.inl rfl)); have NB0_450 := Aside0.mk ((by rw [hg]; exact Nat.ne_of_lt (IsS108.lt (show IsS108 w0 _ g s0_0 s0_1 s0_2 from qi HI0)) : g ≠ gb450)); have NB450_0 := Aside0.mk ((by rw [hg]; exact Nat.ne_of_gt (IsS108.lt (show IsS108 w0 _ g s0_0 s0_1 s0_2 from qi HI0)) : gb450 ≠ g)); replace HI0 := Aside0.mk (IsS108.below (qi HI0) hb); clear hb hbox hg) | ((with_reducible refine gate_callee (f := 72) rfl ?_); refine goesLA (some 5) rfl Try.func72 #[.pointer (some ⟨g, 0, none⟩), .int .i64 6] ?_; (with_reducible refine (spec_l4Cur_pick.calls g s0_0 s0_1 s0_2 6 t451 t452 t453 w0 _ ?side1 ?side2 A2.out).mono ?_); (case side1 => exact qi HI0); (case side2 => exact qz HB); rintro e w6 ⟨rfl, hi, hb, hk⟩; refine ⟨_, rfl, ?_⟩; replace BK450 := Aside0.mk (KeepBut.blk hk (g' := gb450) (o := .cells #[.int .i64 0, .int .i64 0, .int .i64 0] 34 (0, 0)) (qb BK450) NB450_0.out (by simp)); replace HK := Aside0.mk (KeepBut.trans (qk HK) hk (.inl rfl)); replace HB := Aside0.mk (hb); replace HI0 := Aside0.mk (hi); clear hb hk hi) | ((with_reducible refine gate_callee (f := 72) rfl ?_); refine goesLA (some 8) rfl Try.func72 #[.pointer (some ⟨g, 0, none⟩), .int .i64 20] ?_; (with_reducible refine (spec_l4Cur_pick.calls g s0_0 t452 t453 20 t454 t455 t456 w0 _ ?side1 ?side2 A3.out).mono ?_); (case side1 => exact qi HI0); (case side2 => exact qz HB); rintro e w7 ⟨rfl, hi, hb, hk⟩; refine ⟨_, rfl, ?_⟩; replace BK450 := Aside0.mk (KeepBut.blk hk (g' := gb450) (o := .cells #[.int .i64 0, .int .i64 0, .int .i64 0] 34 (0, 0)) (qb BK450) NB450_0.out (by simp)); replace HK := Aside0.mk (KeepBut.trans (qk HK) hk (.inl rfl)); replace HB := Aside0.mk (hb); replace HI0 := Aside0.mk (hi); clear hb hk hi) | ((with_reducible refine gate_dst (N := 3) rfl ?_); refine boxA #[.int .i64 0, .int .i64 0, .int .i64 0] 34 ?_; intro gb457 hg w8 hbox hb; replace HB := Aside0.mk (below_step (qz HB) hb); have BK457 := Aside0.mk (hbox); have GW457 := Aside0.mk ((by rw [hg]; exact (keep_size (w := w) (g := g) (row := none) (qk HK)) : w.heap.size ≤ gb457)); have GE457 := Aside0.mk ((Nat.le_trans HW0.out (by rw [hg]; exact (keep_size (w := w) (g := g) (row := none) (qk HK)) : w.heap.size ≤ gb457) : w0.heap.size ≤ gb457)); replace HK := Aside0.mk (KeepBut.trans (qk HK) (KeepBut.of_below hb g none) (.inl rfl)); have NB450_457 := nlt BK450 hg; have NB457_450 := ngt BK450 hg; replace BK450 := bkb BK450 hb; have NB0_457 := Aside0.mk ((by rw [hg]; exact Nat.ne_of_lt (IsS108.lt (show IsS108 w0 _ g s0_0 t455 t456 from qi HI0)) : g ≠ gb457)); have NB457_0 := Aside0.mk ((by rw [hg]; exact Nat.ne_of_gt (IsS108.lt (show IsS108 w0 _ g s0_0 t455 t456 from qi HI0)) : gb457 ≠ g)); replace HI0 := Aside0.mk (IsS108.below (qi HI0) hb); clear hb hbox hg; have hnb9 := NB457_450.out; have hnc9 := NB450_457.out; have hnb10 := NB457_0.out; have hnc10 := NB0_457.out; have hcz11_0 := b0 BK457; have hcz11_1 := b1 BK457; have hcz11_2 := b2 BK457; have hfz11_0 := blk_frozen BK457.out 0; have hfz11_1 := blk_frozen BK457.out 1; have hfz11_2 := blk_frozen BK457.out 2) | ((with_reducible refine gate_callee (f := 72) rfl ?_); refine goesLA (some 15) rfl Try.func72 #[.pointer (some ⟨g, 0, none⟩), .int .i64 (wrap64 ((wrap64 (1 + t454)) + 1))] ?_; (with_reducible refine (spec_l4Cur_pick.calls g s0_0 t455 t456 (wrap64 ((wrap64 (1 + t454)) + 1)) t458 t459 t460 w0 _ ?side1 ?side2 A4.out).mono ?_); (case side1 => exact qi HI0); (case side2 => exact qz HB); rintro e w12 ⟨rfl, hi, hb, hk⟩; refine ⟨_, rfl, ?_⟩; replace BK450 := Aside0.mk (KeepBut.blk hk (g' := gb450) (o := .cells #[.int .i64 0, .int .i64 0, .int .i64 0] 34 (0, 0)) (qB BK450) NB450_0.out (by simp)); replace BK457 := Aside0.mk (KeepBut.blk hk (g' := gb457) (o := .cells #[.int .i64 (wrap64 (1 + t451)), .int .i64 (wrap64 (1 + t454)), .int .i64 0] 34 (0, 0)) (by (with_reducible repeat (first | refine blk_drewN ?_ _ | refine blk_drew ?_ | refine blk_alloc ?_ _)); refine blk_put (cs := #[.int .i64 (wrap64 (1 + t451)), .int .i64 (wrap64 (1 + t454)), .int .i64 0]) ?_ 2 _ rfl; (with_reducible repeat (first | refine blk_drewN ?_ _ | refine blk_drew ?_ | refine blk_alloc ?_ _)); refine blk_put (cs := #[.int .i64 (wrap64 (1 + t451)), .int .i64 0, .int .i64 0]) ?_ 1 _ rfl; (with_reducible repeat (first | refine blk_drewN ?_ _ | refine blk_drew ?_ | refine blk_alloc ?_ _)); refine blk_put (cs := #[.int .i64 0, .int .i64 0, .int .i64 0]) ?_ 0 _ rfl; (with_reducible repeat (first | refine blk_drewN ?_ _ | refine blk_drew ?_ | refine blk_alloc ?_ _)); exact BK457.out) NB457_0.out (by simp)); replace HK := Aside0.mk (KeepBut.trans (qk HK) hk (.inl rfl)); replace HB := Aside0.mk (hb); replace HI0 := Aside0.mk (hi); clear hb hk hi; have hcz13_0 := b0 BK457; have hcz13_1 := b1 BK457; have hcz13_2 := b2 BK457; have hfz13_0 := blk_frozen BK457.out 0; have hfz13_1 := blk_frozen BK457.out 1; have hfz13_2 := blk_frozen BK457.out 2; have hnb14 := NB450_0.out; have hnc14 := NB0_450.out; have hcz15_0 := b0 BK450; have hcz15_1 := b1 BK450; have hcz15_2 := b2 BK450; have hfz15_0 := blk_frozen BK450.out 0; have hfz15_1 := blk_frozen BK450.out 1; have hfz15_2 := blk_frozen BK450.out 2))
 refine bodyPost_ret (results_cell_row rfl _ _ gb450 34 #[.int .i64 (wrap64 (1 + t451)), .int .i64 (wrap64 (1 + t454)), .int .i64 t458] (0, 0) _ rfl (by (with_reducible repeat (first | refine blk_drewN ?_ _ | refine blk_drew ?_ | refine blk_alloc ?_ _)); refine blk_put (cs := #[.int .i64 (wrap64 (1 + t451)), .int .i64 (wrap64 (1 + t454)), .int .i64 0]) ?_ 2 _ rfl; (with_reducible repeat (first | refine blk_drewN ?_ _ | refine blk_drew ?_ | refine blk_alloc ?_ _)); refine blk_put (cs := #[.int .i64 (wrap64 (1 + t451)), .int .i64 0, .int .i64 0]) ?_ 1 _ rfl; (with_reducible repeat (first | refine blk_drewN ?_ _ | refine blk_drew ?_ | refine blk_alloc ?_ _)); refine blk_put (cs := #[.int .i64 0, .int .i64 0, .int .i64 0]) ?_ 0 _ rfl; exact qB BK450) Try.underlying34 rfl (by kernel_rfl)) rfl ?_
 exact ⟨by first | rfl | (simp [errW_none, errW_some] <;> rfl) | (simp [*, errW_none, errW_some] <;> rfl), (qi HI0), (qz HB), (qk HK)⟩
def spec_l4Cur_oddrules.f (s0_0 : List Int) (s0_1 : Int) (s0_2 : Int) (a1_0 : Int) (a1_1 : Int) (a1_2 : Int) : Option (Int × Int × Int × Int × Int) := (spec_l4Cur_pick.f s0_0 s0_1 s0_2 3).bind fun bt463 => (if bt463.1 = 0 then ((some (([0, 1000, 1001] : List Int) : List Int)).bind fun y466 => ((spec_l4Cur_pick.f s0_0 bt463.2.1 bt463.2.2 3).bind fun bt469 => (if 0 ≤ bt469.1 then (if bt469.1 < (y466.length : Int) then (some (rd y466 bt469.1, a1_1, a1_2, bt469.2.1, bt469.2.2)) else (none)) else (none)))) else (if bt463.1 = 1 then ((some (([0, 10000, 10001] : List Int) : List Int)).bind fun y473 => ((spec_l4Cur_pick.f s0_0 bt463.2.1 bt463.2.2 3).bind fun bt476 => (if 0 ≤ bt476.1 then (if bt476.1 < (y473.length : Int) then (some (a1_0, rd y473 bt476.1, a1_2, bt476.2.1, bt476.2.2)) else (none)) else (none)))) else ((some (([(-1), a1_1, wrap64 (a1_1 + 1)] : List Int) : List Int)).bind fun y480 => ((spec_l4Cur_pick.f s0_0 bt463.2.1 bt463.2.2 3).bind fun bt483 => (if 0 ≤ bt483.1 then (if bt483.1 < (y480.length : Int) then (some (a1_0, a1_1, rd y480 bt483.1, bt483.2.1, bt483.2.2)) else (none)) else (none))))))
def spec_l4Cur_oddrules.T2 : Bool × List (List Nat × List Nat) := (true, [([], []), ([0], [0]), ([], []), ([2], [2]), ([3], [3]), ([1, 4], [1, 4]), ([], []), ([6], [6]), ([5, 7], [5, 7]), ([8], [8]), ([0, 1, 2, 3, 4, 5, 6, 7, 8, 9], []), ([10, 9, 7, 0, 1, 2, 3, 4, 5, 6, 7, 8, 9], [9, 10])])
def spec_l4Cur_oddrules.B2 : List Nat := [0, 1, 0, 4, 12, 31, 0, 64, 255, 511, 1023, 2047]
theorem spec_l4Cur_oddrules.tab2 : rtab .any (opsOf Try.f97 2) = spec_l4Cur_oddrules.T2 := by kernel_rfl
theorem spec_l4Cur_oddrules.bits2 : waitsOk spec_l4Cur_oddrules.T2.2 spec_l4Cur_oddrules.B2 = true := by kernel_rfl
set_option maxHeartbeats 8000000 in
set_option maxRecDepth 100000 in
theorem spec_l4Cur_oddrules.calls (g : Nat) (s0_0 : List Int) (s0_1 : Int) (s0_2 : Int) (a1_0 : Int) (a1_1 : Int) (a1_2 : Int) (r1 : Int) (r2 : Int) (r3 : Int) (r4 : Int) (r5 : Int) (w0 w : World) (hI : IsS108 w0 w g s0_0 s0_1 s0_2) (hB : Below w0.heap.size w0 w) (h : spec_l4Cur_oddrules.f s0_0 s0_1 s0_2 a1_0 a1_1 a1_2 = some (r1, r2, r3, r4, r5)) :
  Calls Try.prog 97 #[.pointer (some ⟨g, 0, none⟩), .agg #[.int .i64 a1_0, .int .i64 a1_1, .int .i64 a1_2]] w fun e w' => e = .returned (.agg #[.int .i64 r1, .int .i64 r2, .int .i64 r3]) ∧ IsS108 w0 w' g s0_0 r4 r5 ∧ Below w0.heap.size w0 w' ∧ KeepBut w w' g none := by
 have hu34 := Try.underlying34
 have HI0 := Aside0.mk hI
 have HK := Aside0.mk (KeepBut.refl w g none)
 have HL := Aside0.mk hB.size
 clear hI
 have HW0 := Aside0.mk hB.size
 have HB := Aside0.mk hB
 clear hB
 have H : ((spec_l4Cur_pick.f s0_0 s0_1 s0_2 3).bind fun bt463 => (if bt463.1 = 0 then ((some (([0, 1000, 1001] : List Int) : List Int)).bind fun y466 => ((spec_l4Cur_pick.f s0_0 bt463.2.1 bt463.2.2 3).bind fun bt469 => (if 0 ≤ bt469.1 then (if bt469.1 < (y466.length : Int) then (some (rd y466 bt469.1, a1_1, a1_2, bt469.2.1, bt469.2.2)) else (none)) else (none)))) else (if bt463.1 = 1 then ((some (([0, 10000, 10001] : List Int) : List Int)).bind fun y473 => ((spec_l4Cur_pick.f s0_0 bt463.2.1 bt463.2.2 3).bind fun bt476 => (if 0 ≤ bt476.1 then (if bt476.1 < (y473.length : Int) then (some (a1_0, rd y473 bt476.1, a1_2, bt476.2.1, bt476.2.2)) else (none)) else (none)))) else ((some (([(-1), a1_1, wrap64 (a1_1 + 1)] : List Int) : List Int)).bind fun y480 => ((spec_l4Cur_pick.f s0_0 bt463.2.1 bt463.2.2 3).bind fun bt483 => (if 0 ≤ bt483.1 then (if bt483.1 < (y480.length : Int) then (some (a1_0, a1_1, rd y480 bt483.1, bt483.2.1, bt483.2.2)) else (none)) else (none))))))) = some (r1, r2, r3, r4, r5) := h
 clear h
 replace H := Option.bind_eq_some_iff.mp H
 obtain ⟨⟨t463, t464, t465⟩, A30, H⟩ := H
 replace H : (if t463 = 0 then ((some (([0, 1000, 1001] : List Int) : List Int)).bind fun y466 => ((spec_l4Cur_pick.f s0_0 t464 t465 3).bind fun bt469 => (if 0 ≤ bt469.1 then (if bt469.1 < (y466.length : Int) then (some (rd y466 bt469.1, a1_1, a1_2, bt469.2.1, bt469.2.2)) else (none)) else (none)))) else (if t463 = 1 then ((some (([0, 10000, 10001] : List Int) : List Int)).bind fun y473 => ((spec_l4Cur_pick.f s0_0 t464 t465 3).bind fun bt476 => (if 0 ≤ bt476.1 then (if bt476.1 < (y473.length : Int) then (some (a1_0, rd y473 bt476.1, a1_2, bt476.2.1, bt476.2.2)) else (none)) else (none)))) else ((some (([(-1), a1_1, wrap64 (a1_1 + 1)] : List Int) : List Int)).bind fun y480 => ((spec_l4Cur_pick.f s0_0 t464 t465 3).bind fun bt483 => (if 0 ≤ bt483.1 then (if bt483.1 < (y480.length : Int) then (some (a1_0, a1_1, rd y480 bt483.1, bt483.2.1, bt483.2.2)) else (none)) else (none)))))) = some (r1, r2, r3, r4, r5) := H
 have A3 := Aside0.mk A30
 clear A30
 by_cases c4 : t463 = 0
 ·rw [if_pos c4] at H
  have c4b0 : (t463 == 0) = true := beq_iff_eq.mpr c4
  have c4b1 : (t463 != 0) = false := bne_eq_false_iff_eq.mpr c4
  clear c4
  obtain ⟨y466, hy466⟩ : ∃ y_ : List Int, y_ = (([0, 1000, 1001] : List Int)) := ⟨_, rfl⟩
  replace H : ((spec_l4Cur_pick.f s0_0 t464 t465 3).bind fun bt469 => (if 0 ≤ bt469.1 then (if bt469.1 < (y466.length : Int) then (some (rd y466 bt469.1, a1_1, a1_2, bt469.2.1, bt469.2.2)) else (none)) else (none))) = some (r1, r2, r3, r4, r5) := by first | (rw [hy466]; with_reducible exact H) | (have H2_ := (Option.bind_some _ _).symm.trans H; rw [hy466]; with_reducible exact H2_) | (have H2_ := (Option.bind_some _ _).symm.trans H; with_reducible exact H2_) | with_reducible exact H | (rw [hy466]; exact H) | exact H
  have Ny466 := Aside0.mk hy466
  clear hy466
  replace H := Option.bind_eq_some_iff.mp H
  obtain ⟨⟨t469, t470, t471⟩, A50, H⟩ := H
  replace H : (if 0 ≤ t469 then (if t469 < (y466.length : Int) then (some (rd y466 t469, a1_1, a1_2, t470, t471)) else (none)) else (none)) = some (r1, r2, r3, r4, r5) := H
  have A5 := Aside0.mk A50
  clear A50
  by_cases c6 : 0 ≤ t469
  ·rw [if_pos c6] at H
   have c6b0 : decide (0 ≤ t469) = true := decide_eq_true c6
   clear c6
   by_cases c7 : t469 < (y466.length : Int)
   ·rw [if_pos c7] at H
    have c7b0 : decide (t469 < (y466.length : Int)) = true := decide_eq_true c7
    clear c7
    simp only [Option.some.injEq, Prod.mk.injEq] at H
    obtain ⟨rfl, rfl, rfl, rfl, rfl⟩ := H
    go_enter Try.func97, Try.ntmps97
    go_wp2_with (first | ((with_reducible refine gate_dst (N := 3) rfl ?_); refine boxA #[.int .i64 a1_0, .int .i64 a1_1, .int .i64 a1_2] 34 ?_; intro gb461 hg w8 hbox hb; replace HB := Aside0.mk (below_step (qz HB) hb); have BK461 := Aside0.mk (hbox); have GW461 := Aside0.mk ((by rw [hg]; exact (keep_size (w := w) (g := g) (row := none) (qk HK)) : w.heap.size ≤ gb461)); have GE461 := Aside0.mk ((Nat.le_trans HW0.out (by rw [hg]; exact (keep_size (w := w) (g := g) (row := none) (qk HK)) : w.heap.size ≤ gb461) : w0.heap.size ≤ gb461)); replace HK := Aside0.mk (KeepBut.trans (qk HK) (KeepBut.of_below hb g none) (.inl rfl)); have NB0_461 := Aside0.mk ((by rw [hg]; exact Nat.ne_of_lt (IsS108.lt (show IsS108 w0 _ g s0_0 s0_1 s0_2 from qi HI0)) : g ≠ gb461)); have NB461_0 := Aside0.mk ((by rw [hg]; exact Nat.ne_of_gt (IsS108.lt (show IsS108 w0 _ g s0_0 s0_1 s0_2 from qi HI0)) : gb461 ≠ g)); replace HI0 := Aside0.mk (IsS108.below (qi HI0) hb); clear hb hbox hg) | ((with_reducible refine gate_dst (N := 4) rfl ?_); refine boxA #[.int .i64 0, .int .i64 0, .int .i64 0] 34 ?_; intro gb462 hg w9 hbox hb; replace HB := Aside0.mk (below_step (qz HB) hb); have BK462 := Aside0.mk (hbox); have GW462 := Aside0.mk ((by rw [hg]; exact (keep_size (w := w) (g := g) (row := none) (qk HK)) : w.heap.size ≤ gb462)); have GE462 := Aside0.mk ((Nat.le_trans HW0.out (by rw [hg]; exact (keep_size (w := w) (g := g) (row := none) (qk HK)) : w.heap.size ≤ gb462) : w0.heap.size ≤ gb462)); replace HK := Aside0.mk (KeepBut.trans (qk HK) (KeepBut.of_below hb g none) (.inl rfl)); have NB461_462 := nlt BK461 hg; have NB462_461 := ngt BK461 hg; replace BK461 := bkb BK461 hb; have NB0_462 := Aside0.mk ((by rw [hg]; exact Nat.ne_of_lt (IsS108.lt (show IsS108 w0 _ g s0_0 s0_1 s0_2 from qi HI0)) : g ≠ gb462)); have NB462_0 := Aside0.mk ((by rw [hg]; exact Nat.ne_of_gt (IsS108.lt (show IsS108 w0 _ g s0_0 s0_1 s0_2 from qi HI0)) : gb462 ≠ g)); replace HI0 := Aside0.mk (IsS108.below (qi HI0) hb); clear hb hbox hg) | ((with_reducible refine gate_callee (f := 72) rfl ?_); refine goesLA (some 6) rfl Try.func72 #[.pointer (some ⟨g, 0, none⟩), .int .i64 3] ?_; (with_reducible refine (spec_l4Cur_pick.calls g s0_0 s0_1 s0_2 3 t463 t464 t465 w0 _ ?side1 ?side2 A3.out).mono ?_); (case side1 => exact qi HI0); (case side2 => exact qz HB); rintro e w10 ⟨rfl, hi, hb, hk⟩; refine ⟨_, rfl, ?_⟩; replace BK461 := Aside0.mk (KeepBut.blk hk (g' := gb461) (o := .cells #[.int .i64 a1_0, .int .i64 a1_1, .int .i64 a1_2] 34 (0, 0)) (qb BK461) NB461_0.out (by simp)); replace BK462 := Aside0.mk (KeepBut.blk hk (g' := gb462) (o := .cells #[.int .i64 0, .int .i64 0, .int .i64 0] 34 (0, 0)) (qb BK462) NB462_0.out (by simp)); replace HK := Aside0.mk (KeepBut.trans (qk HK) hk (.inl rfl)); replace HB := Aside0.mk (hb); replace HI0 := Aside0.mk (hi); clear hb hk hi) | ((with_reducible refine gate_dst (N := 20) rfl ?_); refine Kd.R_lit (Kd.int .i64) _ 3 ?hg (N := 20) ?hd (xs := ([0, 1000, 1001] : List Int)) (inner := [.int .i64 0, .int .i64 1000, .int .i64 1001]) (ok := fun _ => True) (okp := fun _ => True) ?hr ?hp (fun _ hk => hk) trivial (Below.refl _ _) (Nat.le_refl _) (by simp) ?_; (case hd => rfl); (case hg => rfl); (case hr => first | (go_simp; done) | (go_simp; rfl)); (case hp => exact (Reps.one (show Kd.M (Kd.int .i64) _ _ _ 0 [.int .i64 0] from rfl) (Reps.one (show Kd.M (Kd.int .i64) _ _ _ 1000 [.int .i64 1000] from rfl) (Reps.one (show Kd.M (Kd.int .i64) _ _ _ 1001 [.int .i64 1001] from rfl) (Reps.none _ _))))); intro v467 w11 ho12 hb hg_ hnew_; clear hg_ hnew_; (first | rw [← Ny466.out] at ho12 | (simp only [Int.reduceToNat] at ho12; rw [← Ny466.out] at ho12)); have HO468 := Aside0.mk (Kd.R_lower ho12 (keep_size (w := w) (g := g) (row := none) (qk HK))); replace HI0 := Aside0.mk (IsS108.below (qi HI0) hb); replace BK461 := bkb BK461 hb; replace BK462 := bkb BK462 hb; replace HK := Aside0.mk (KeepBut.trans (qk HK) (KeepBut.of_below hb g none) (.inl rfl)); replace HB := Aside0.mk (below_step (qz HB) hb); clear hb ho12) | ((with_reducible refine gate_callee (f := 72) rfl ?_); refine goesLA (some 22) rfl Try.func72 #[.pointer (some ⟨g, 0, none⟩), .int .i64 3] ?_; (with_reducible refine (spec_l4Cur_pick.calls g s0_0 t464 t465 3 t469 t470 t471 w0 _ ?side1 ?side2 A5.out).mono ?_); (case side1 => exact qi HI0); (case side2 => exact qz HB); rintro e w13 ⟨rfl, hi, hb, hk⟩; refine ⟨_, rfl, ?_⟩; replace BK461 := Aside0.mk (KeepBut.blk hk (g' := gb461) (o := .cells #[.int .i64 a1_0, .int .i64 a1_1, .int .i64 a1_2] 34 (0, 0)) (qb BK461) NB461_0.out (by simp)); replace BK462 := Aside0.mk (KeepBut.blk hk (g' := gb462) (o := .cells #[.int .i64 0, .int .i64 0, .int .i64 0] 34 (0, 0)) (qb BK462) NB462_0.out (by simp)); replace HO468 := Aside0.mk (Kd.R_mono (Kd.R_keep (IsS108.apart (show IsS108 w0 _ g s0_0 t464 t465 from qi HI0) (qr HO468) (by decide)) hk (fun _ h => h.2)) (fun _ h => h.1)); replace HK := Aside0.mk (KeepBut.trans (qk HK) hk (.inl rfl)); replace HB := Aside0.mk (hb); replace HI0 := Aside0.mk (hi); clear hb hk hi; obtain ⟨Ao14, co14, eo14⟩ := Kd.R_slice HO468.out; subst eo14; have p472 : 0 ≤ (t469 : Int) := of_decide_eq_true (by first | (with_reducible assumption) | assumption); have q472 : t469 < (y466.length : Int) := of_decide_eq_true (by first | (with_reducible assumption) | assumption); obtain ⟨ad472, e472, hx472_0⟩ := Kd.at_int (Kd.R_reads' HO468.out).2.2 t469 p472 q472; cases e472; replace p472 := eq_true p472; replace q472 := eq_true q472; have hnb15 := NB461_462.out; have hnc15 := NB462_461.out; have hnb16 := NB461_0.out; have hnc16 := NB0_461.out; have hcz17_0 := b0 BK461; have hcz17_1 := b1 BK461; have hcz17_2 := b2 BK461; have hfz17_0 := blk_frozen BK461.out 0; have hfz17_1 := blk_frozen BK461.out 1; have hfz17_2 := blk_frozen BK461.out 2; have hnb18 := NB462_0.out; have hnc18 := NB0_462.out; have hcz19_0 := b0 BK462; have hcz19_1 := b1 BK462; have hcz19_2 := b2 BK462; have hfz19_0 := blk_frozen BK462.out 0; have hfz19_1 := blk_frozen BK462.out 1; have hfz19_2 := blk_frozen BK462.out 2))
    refine bodyPost_ret (results_cell_row rfl _ _ gb462 34 #[.int .i64 (rd y466 t469), .int .i64 a1_1, .int .i64 a1_2] (0, 0) _ rfl (by (with_reducible repeat (first | refine blk_drewN ?_ _ | refine blk_drew ?_ | refine blk_alloc ?_ _)); refine blk_put (cs := #[.int .i64 (rd y466 t469), .int .i64 a1_1, .int .i64 0]) ?_ 2 _ rfl; (with_reducible repeat (first | refine blk_drewN ?_ _ | refine blk_drew ?_ | refine blk_alloc ?_ _)); refine blk_put (cs := #[.int .i64 (rd y466 t469), .int .i64 0, .int .i64 0]) ?_ 1 _ rfl; (with_reducible repeat (first | refine blk_drewN ?_ _ | refine blk_drew ?_ | refine blk_alloc ?_ _)); refine blk_put (cs := #[.int .i64 0, .int .i64 0, .int .i64 0]) ?_ 0 _ rfl; exact qB BK462) Try.underlying34 rfl (by kernel_rfl)) rfl ?_
    exact ⟨by first | rfl | (simp [errW_none, errW_some] <;> rfl) | (simp [*, errW_none, errW_some] <;> rfl), (qi HI0), (qz HB), (qk HK)⟩
   rw [if_neg c7] at H
   exact absurd H (by simp)
  rw [if_neg c6] at H
  exact absurd H (by simp)
 rw [if_neg c4] at H
 have c4b0 : (t463 == 0) = false := beq_eq_false_iff_ne.mpr c4
 have c4b1 : (t463 != 0) = true := bne_iff_ne.mpr c4
 by_cases c20 : t463 = 1
 ·rw [if_pos c20] at H
  have c20b0 : (t463 == 1) = true := beq_iff_eq.mpr c20
  have c20b1 : (t463 != 1) = false := bne_eq_false_iff_eq.mpr c20
  clear c20
  obtain ⟨y473, hy473⟩ : ∃ y_ : List Int, y_ = (([0, 10000, 10001] : List Int)) := ⟨_, rfl⟩
  replace H : ((spec_l4Cur_pick.f s0_0 t464 t465 3).bind fun bt476 => (if 0 ≤ bt476.1 then (if bt476.1 < (y473.length : Int) then (some (a1_0, rd y473 bt476.1, a1_2, bt476.2.1, bt476.2.2)) else (none)) else (none))) = some (r1, r2, r3, r4, r5) := by first | (rw [hy473]; with_reducible exact H) | (have H2_ := (Option.bind_some _ _).symm.trans H; rw [hy473]; with_reducible exact H2_) | (have H2_ := (Option.bind_some _ _).symm.trans H; with_reducible exact H2_) | with_reducible exact H | (rw [hy473]; exact H) | exact H
  have Ny473 := Aside0.mk hy473
  clear hy473
  replace H := Option.bind_eq_some_iff.mp H
  obtain ⟨⟨t476, t477, t478⟩, A210, H⟩ := H
  replace H : (if 0 ≤ t476 then (if t476 < (y473.length : Int) then (some (a1_0, rd y473 t476, a1_2, t477, t478)) else (none)) else (none)) = some (r1, r2, r3, r4, r5) := H
  have A21 := Aside0.mk A210
  clear A210
  by_cases c22 : 0 ≤ t476
  ·rw [if_pos c22] at H
   have c22b0 : decide (0 ≤ t476) = true := decide_eq_true c22
   clear c22
   by_cases c23 : t476 < (y473.length : Int)
   ·rw [if_pos c23] at H
    have c23b0 : decide (t476 < (y473.length : Int)) = true := decide_eq_true c23
    clear c23
    simp only [Option.some.injEq, Prod.mk.injEq] at H
    obtain ⟨rfl, rfl, rfl, rfl, rfl⟩ := H
    go_enter Try.func97, Try.ntmps97
    go_wp2_with (first | ((with_reducible refine gate_dst (N := 3) rfl ?_); refine boxA #[.int .i64 a1_0, .int .i64 a1_1, .int .i64 a1_2] 34 ?_; intro gb461 hg w24 hbox hb; replace HB := Aside0.mk (below_step (qz HB) hb); have BK461 := Aside0.mk (hbox); have GW461 := Aside0.mk ((by rw [hg]; exact (keep_size (w := w) (g := g) (row := none) (qk HK)) : w.heap.size ≤ gb461)); have GE461 := Aside0.mk ((Nat.le_trans HW0.out (by rw [hg]; exact (keep_size (w := w) (g := g) (row := none) (qk HK)) : w.heap.size ≤ gb461) : w0.heap.size ≤ gb461)); replace HK := Aside0.mk (KeepBut.trans (qk HK) (KeepBut.of_below hb g none) (.inl rfl)); have NB0_461 := Aside0.mk ((by rw [hg]; exact Nat.ne_of_lt (IsS108.lt (show IsS108 w0 _ g s0_0 s0_1 s0_2 from qi HI0)) : g ≠ gb461)); have NB461_0 := Aside0.mk ((by rw [hg]; exact Nat.ne_of_gt (IsS108.lt (show IsS108 w0 _ g s0_0 s0_1 s0_2 from qi HI0)) : gb461 ≠ g)); replace HI0 := Aside0.mk (IsS108.below (qi HI0) hb); clear hb hbox hg) | ((with_reducible refine gate_dst (N := 4) rfl ?_); refine boxA #[.int .i64 0, .int .i64 0, .int .i64 0] 34 ?_; intro gb462 hg w25 hbox hb; replace HB := Aside0.mk (below_step (qz HB) hb); have BK462 := Aside0.mk (hbox); have GW462 := Aside0.mk ((by rw [hg]; exact (keep_size (w := w) (g := g) (row := none) (qk HK)) : w.heap.size ≤ gb462)); have GE462 := Aside0.mk ((Nat.le_trans HW0.out (by rw [hg]; exact (keep_size (w := w) (g := g) (row := none) (qk HK)) : w.heap.size ≤ gb462) : w0.heap.size ≤ gb462)); replace HK := Aside0.mk (KeepBut.trans (qk HK) (KeepBut.of_below hb g none) (.inl rfl)); have NB461_462 := nlt BK461 hg; have NB462_461 := ngt BK461 hg; replace BK461 := bkb BK461 hb; have NB0_462 := Aside0.mk ((by rw [hg]; exact Nat.ne_of_lt (IsS108.lt (show IsS108 w0 _ g s0_0 s0_1 s0_2 from qi HI0)) : g ≠ gb462)); have NB462_0 := Aside0.mk ((by rw [hg]; exact Nat.ne_of_gt (IsS108.lt (show IsS108 w0 _ g s0_0 s0_1 s0_2 from qi HI0)) : gb462 ≠ g)); replace HI0 := Aside0.mk (IsS108.below (qi HI0) hb); clear hb hbox hg) | ((with_reducible refine gate_callee (f := 72) rfl ?_); refine goesLA (some 6) rfl Try.func72 #[.pointer (some ⟨g, 0, none⟩), .int .i64 3] ?_; (with_reducible refine (spec_l4Cur_pick.calls g s0_0 s0_1 s0_2 3 t463 t464 t465 w0 _ ?side1 ?side2 A3.out).mono ?_); (case side1 => exact qi HI0); (case side2 => exact qz HB); rintro e w26 ⟨rfl, hi, hb, hk⟩; refine ⟨_, rfl, ?_⟩; replace BK461 := Aside0.mk (KeepBut.blk hk (g' := gb461) (o := .cells #[.int .i64 a1_0, .int .i64 a1_1, .int .i64 a1_2] 34 (0, 0)) (qb BK461) NB461_0.out (by simp)); replace BK462 := Aside0.mk (KeepBut.blk hk (g' := gb462) (o := .cells #[.int .i64 0, .int .i64 0, .int .i64 0] 34 (0, 0)) (qb BK462) NB462_0.out (by simp)); replace HK := Aside0.mk (KeepBut.trans (qk HK) hk (.inl rfl)); replace HB := Aside0.mk (hb); replace HI0 := Aside0.mk (hi); clear hb hk hi) | ((with_reducible refine gate_dst (N := 28) rfl ?_); refine Kd.R_lit (Kd.int .i64) _ 3 ?hg (N := 28) ?hd (xs := ([0, 10000, 10001] : List Int)) (inner := [.int .i64 0, .int .i64 10000, .int .i64 10001]) (ok := fun _ => True) (okp := fun _ => True) ?hr ?hp (fun _ hk => hk) trivial (Below.refl _ _) (Nat.le_refl _) (by simp) ?_; (case hd => rfl); (case hg => rfl); (case hr => first | (go_simp; done) | (go_simp; rfl)); (case hp => exact (Reps.one (show Kd.M (Kd.int .i64) _ _ _ 0 [.int .i64 0] from rfl) (Reps.one (show Kd.M (Kd.int .i64) _ _ _ 10000 [.int .i64 10000] from rfl) (Reps.one (show Kd.M (Kd.int .i64) _ _ _ 10001 [.int .i64 10001] from rfl) (Reps.none _ _))))); intro v474 w27 ho28 hb hg_ hnew_; clear hg_ hnew_; (first | rw [← Ny473.out] at ho28 | (simp only [Int.reduceToNat] at ho28; rw [← Ny473.out] at ho28)); have HO475 := Aside0.mk (Kd.R_lower ho28 (keep_size (w := w) (g := g) (row := none) (qk HK))); replace HI0 := Aside0.mk (IsS108.below (qi HI0) hb); replace BK461 := bkb BK461 hb; replace BK462 := bkb BK462 hb; replace HK := Aside0.mk (KeepBut.trans (qk HK) (KeepBut.of_below hb g none) (.inl rfl)); replace HB := Aside0.mk (below_step (qz HB) hb); clear hb ho28) | ((with_reducible refine gate_callee (f := 72) rfl ?_); refine goesLA (some 30) rfl Try.func72 #[.pointer (some ⟨g, 0, none⟩), .int .i64 3] ?_; (with_reducible refine (spec_l4Cur_pick.calls g s0_0 t464 t465 3 t476 t477 t478 w0 _ ?side1 ?side2 A21.out).mono ?_); (case side1 => exact qi HI0); (case side2 => exact qz HB); rintro e w29 ⟨rfl, hi, hb, hk⟩; refine ⟨_, rfl, ?_⟩; replace BK461 := Aside0.mk (KeepBut.blk hk (g' := gb461) (o := .cells #[.int .i64 a1_0, .int .i64 a1_1, .int .i64 a1_2] 34 (0, 0)) (qb BK461) NB461_0.out (by simp)); replace BK462 := Aside0.mk (KeepBut.blk hk (g' := gb462) (o := .cells #[.int .i64 0, .int .i64 0, .int .i64 0] 34 (0, 0)) (qb BK462) NB462_0.out (by simp)); replace HO475 := Aside0.mk (Kd.R_mono (Kd.R_keep (IsS108.apart (show IsS108 w0 _ g s0_0 t464 t465 from qi HI0) (qr HO475) (by decide)) hk (fun _ h => h.2)) (fun _ h => h.1)); replace HK := Aside0.mk (KeepBut.trans (qk HK) hk (.inl rfl)); replace HB := Aside0.mk (hb); replace HI0 := Aside0.mk (hi); clear hb hk hi; obtain ⟨Ao30, co30, eo30⟩ := Kd.R_slice HO475.out; subst eo30; have p479 : 0 ≤ (t476 : Int) := of_decide_eq_true (by first | (with_reducible assumption) | assumption); have q479 : t476 < (y473.length : Int) := of_decide_eq_true (by first | (with_reducible assumption) | assumption); obtain ⟨ad479, e479, hx479_0⟩ := Kd.at_int (Kd.R_reads' HO475.out).2.2 t476 p479 q479; cases e479; replace p479 := eq_true p479; replace q479 := eq_true q479; have hnb31 := NB461_462.out; have hnc31 := NB462_461.out; have hnb32 := NB461_0.out; have hnc32 := NB0_461.out; have hcz33_0 := b0 BK461; have hcz33_1 := b1 BK461; have hcz33_2 := b2 BK461; have hfz33_0 := blk_frozen BK461.out 0; have hfz33_1 := blk_frozen BK461.out 1; have hfz33_2 := blk_frozen BK461.out 2; have hnb34 := NB462_0.out; have hnc34 := NB0_462.out; have hcz35_0 := b0 BK462; have hcz35_1 := b1 BK462; have hcz35_2 := b2 BK462; have hfz35_0 := blk_frozen BK462.out 0; have hfz35_1 := blk_frozen BK462.out 1; have hfz35_2 := blk_frozen BK462.out 2))
    refine bodyPost_ret (results_cell_row rfl _ _ gb462 34 #[.int .i64 a1_0, .int .i64 (rd y473 t476), .int .i64 a1_2] (0, 0) _ rfl (by (with_reducible repeat (first | refine blk_drewN ?_ _ | refine blk_drew ?_ | refine blk_alloc ?_ _)); refine blk_put (cs := #[.int .i64 a1_0, .int .i64 (rd y473 t476), .int .i64 0]) ?_ 2 _ rfl; (with_reducible repeat (first | refine blk_drewN ?_ _ | refine blk_drew ?_ | refine blk_alloc ?_ _)); refine blk_put (cs := #[.int .i64 a1_0, .int .i64 0, .int .i64 0]) ?_ 1 _ rfl; (with_reducible repeat (first | refine blk_drewN ?_ _ | refine blk_drew ?_ | refine blk_alloc ?_ _)); refine blk_put (cs := #[.int .i64 0, .int .i64 0, .int .i64 0]) ?_ 0 _ rfl; exact qB BK462) Try.underlying34 rfl (by kernel_rfl)) rfl ?_
    exact ⟨by first | rfl | (simp [errW_none, errW_some] <;> rfl) | (simp [*, errW_none, errW_some] <;> rfl), (qi HI0), (qz HB), (qk HK)⟩
   rw [if_neg c23] at H
   exact absurd H (by simp)
  rw [if_neg c22] at H
  exact absurd H (by simp)
 rw [if_neg c20] at H
 have c20b0 : (t463 == 1) = false := beq_eq_false_iff_ne.mpr c20
 have c20b1 : (t463 != 1) = true := bne_iff_ne.mpr c20
 obtain ⟨y480, hy480⟩ : ∃ y_ : List Int, y_ = (([(-1), a1_1, wrap64 (a1_1 + 1)] : List Int)) := ⟨_, rfl⟩
 replace H : ((spec_l4Cur_pick.f s0_0 t464 t465 3).bind fun bt483 => (if 0 ≤ bt483.1 then (if bt483.1 < (y480.length : Int) then (some (a1_0, a1_1, rd y480 bt483.1, bt483.2.1, bt483.2.2)) else (none)) else (none))) = some (r1, r2, r3, r4, r5) := by first | (rw [hy480]; with_reducible exact H) | (have H2_ := (Option.bind_some _ _).symm.trans H; rw [hy480]; with_reducible exact H2_) | (have H2_ := (Option.bind_some _ _).symm.trans H; with_reducible exact H2_) | with_reducible exact H | (rw [hy480]; exact H) | exact H
 have Ny480 := Aside0.mk hy480
 clear hy480
 replace H := Option.bind_eq_some_iff.mp H
 obtain ⟨⟨t483, t484, t485⟩, A360, H⟩ := H
 replace H : (if 0 ≤ t483 then (if t483 < (y480.length : Int) then (some (a1_0, a1_1, rd y480 t483, t484, t485)) else (none)) else (none)) = some (r1, r2, r3, r4, r5) := H
 have A36 := Aside0.mk A360
 clear A360
 by_cases c37 : 0 ≤ t483
 ·rw [if_pos c37] at H
  have c37b0 : decide (0 ≤ t483) = true := decide_eq_true c37
  clear c37
  by_cases c38 : t483 < (y480.length : Int)
  ·rw [if_pos c38] at H
   have c38b0 : decide (t483 < (y480.length : Int)) = true := decide_eq_true c38
   clear c38
   simp only [Option.some.injEq, Prod.mk.injEq] at H
   obtain ⟨rfl, rfl, rfl, rfl, rfl⟩ := H
   go_enter Try.func97, Try.ntmps97
   try go_wp2_with (first | ((with_reducible refine gate_dst (N := 3) rfl ?_); refine boxA #[.int .i64 a1_0, .int .i64 a1_1, .int .i64 a1_2] 34 ?_; intro gb461 hg w39 hbox hb; replace HB := Aside0.mk (below_step (qz HB) hb); have BK461 := Aside0.mk (hbox); have GW461 := Aside0.mk ((by rw [hg]; exact (keep_size (w := w) (g := g) (row := none) (qk HK)) : w.heap.size ≤ gb461)); have GE461 := Aside0.mk ((Nat.le_trans HW0.out (by rw [hg]; exact (keep_size (w := w) (g := g) (row := none) (qk HK)) : w.heap.size ≤ gb461) : w0.heap.size ≤ gb461)); replace HK := Aside0.mk (KeepBut.trans (qk HK) (KeepBut.of_below hb g none) (.inl rfl)); have NB0_461 := Aside0.mk ((by rw [hg]; exact Nat.ne_of_lt (IsS108.lt (show IsS108 w0 _ g s0_0 s0_1 s0_2 from qi HI0)) : g ≠ gb461)); have NB461_0 := Aside0.mk ((by rw [hg]; exact Nat.ne_of_gt (IsS108.lt (show IsS108 w0 _ g s0_0 s0_1 s0_2 from qi HI0)) : gb461 ≠ g)); replace HI0 := Aside0.mk (IsS108.below (qi HI0) hb); clear hb hbox hg) | ((with_reducible refine gate_dst (N := 4) rfl ?_); refine boxA #[.int .i64 0, .int .i64 0, .int .i64 0] 34 ?_; intro gb462 hg w40 hbox hb; replace HB := Aside0.mk (below_step (qz HB) hb); have BK462 := Aside0.mk (hbox); have GW462 := Aside0.mk ((by rw [hg]; exact (keep_size (w := w) (g := g) (row := none) (qk HK)) : w.heap.size ≤ gb462)); have GE462 := Aside0.mk ((Nat.le_trans HW0.out (by rw [hg]; exact (keep_size (w := w) (g := g) (row := none) (qk HK)) : w.heap.size ≤ gb462) : w0.heap.size ≤ gb462)); replace HK := Aside0.mk (KeepBut.trans (qk HK) (KeepBut.of_below hb g none) (.inl rfl)); have NB461_462 := nlt BK461 hg; have NB462_461 := ngt BK461 hg; replace BK461 := bkb BK461 hb; have NB0_462 := Aside0.mk ((by rw [hg]; exact Nat.ne_of_lt (IsS108.lt (show IsS108 w0 _ g s0_0 s0_1 s0_2 from qi HI0)) : g ≠ gb462)); have NB462_0 := Aside0.mk ((by rw [hg]; exact Nat.ne_of_gt (IsS108.lt (show IsS108 w0 _ g s0_0 s0_1 s0_2 from qi HI0)) : gb462 ≠ g)); replace HI0 := Aside0.mk (IsS108.below (qi HI0) hb); clear hb hbox hg) | ((with_reducible refine gate_callee (f := 72) rfl ?_); refine goesLA (some 6) rfl Try.func72 #[.pointer (some ⟨g, 0, none⟩), .int .i64 3] ?_; (with_reducible refine (spec_l4Cur_pick.calls g s0_0 s0_1 s0_2 3 t463 t464 t465 w0 _ ?side1 ?side2 A3.out).mono ?_); (case side1 => exact qi HI0); (case side2 => exact qz HB); rintro e w41 ⟨rfl, hi, hb, hk⟩; refine ⟨_, rfl, ?_⟩; replace BK461 := Aside0.mk (KeepBut.blk hk (g' := gb461) (o := .cells #[.int .i64 a1_0, .int .i64 a1_1, .int .i64 a1_2] 34 (0, 0)) (qb BK461) NB461_0.out (by simp)); replace BK462 := Aside0.mk (KeepBut.blk hk (g' := gb462) (o := .cells #[.int .i64 0, .int .i64 0, .int .i64 0] 34 (0, 0)) (qb BK462) NB462_0.out (by simp)); replace HK := Aside0.mk (KeepBut.trans (qk HK) hk (.inl rfl)); replace HB := Aside0.mk (hb); replace HI0 := Aside0.mk (hi); clear hb hk hi))
   have pi486 : (0 ≤ (t483 : Int)) = True := eq_true (of_decide_eq_true (by first | (with_reducible assumption) | assumption))
   have qi486 : (t483 < (y480.length : Int)) = True := eq_true (of_decide_eq_true (by first | (with_reducible assumption) | assumption))
   replace BK461 := Aside0.mk (blk_drew BK461.out); replace BK462 := Aside0.mk (blk_drew BK462.out); replace HI0 := Aside0.mk (IsS108.drew HI0.out); replace HK := Aside0.mk (keep_drew HK.out); replace HB := Aside0.mk (below_drew1 HB.out)
   refine start_ (n := 12) (S := fun w' => w'.cell? ⟨gb461, 0, none⟩ = some (.int .i64 a1_0) ∧ w'.cell? ⟨gb461, 1, none⟩ = some (.int .i64 a1_1) ∧ w'.cell? ⟨gb461, 2, none⟩ = some (.int .i64 a1_2)) (ds := [11]) #[false, false, false, false, false, false, false, false, false, false, false, false] (by kernel_rfl) rfl rfl ⟨bc BK461 0, bc BK461 1, bc BK461 2⟩ (fun hHeld => ?_); refine with_tabW spec_l4Cur_oddrules.tab2 spec_l4Cur_oddrules.bits2 (fun HT_ HW_ => ?_)
   generalize w41.drew = w42 at BK461 BK462 HI0 HK HB hHeld ⊢
   refine pureA 0 7 #[true, false, false, false, false, false, false, false, false, false, false, false] (any_of HT_.out (by kernel_rfl)) ?_
   refine pureA 2 9 #[true, false, true, false, false, false, false, false, false, false, false, false] (any_of HT_.out (by kernel_rfl)) ?_
   refine pureA 6 13 #[true, false, true, false, false, false, true, false, false, false, false, false] (any_of HT_.out (by kernel_rfl)) ?_
   refine takeA 1 8 #[true, true, true, false, false, false, true, false, false, false, false, false] (take_ofW HT_.out HW_.out (by kernel_rfl)) hHeld ?_
   refine takeA 3 10 #[true, true, true, true, false, false, true, false, false, false, false, false] (take_ofW HT_.out HW_.out (by kernel_rfl)) hHeld ?_
   refine pureA 4 11 #[true, true, true, true, true, false, true, false, false, false, false, false] (any_of HT_.out (by kernel_rfl)) ?_
   refine join_ (σ := Value × Addr) 4 #[true, true, true, true, true, true, true, true, false, false, false, false] (fun s_ => [(12, s_.1), (14, .int .i64 t483)]) (fun s_ w' => (w'.cell? ⟨gb461, 0, none⟩ = some (.int .i64 a1_0) ∧ w'.cell? ⟨gb461, 1, none⟩ = some (.int .i64 a1_1) ∧ w'.cell? ⟨gb461, 2, none⟩ = some (.int .i64 a1_2)) ∧ (Kd.R (Kd.int .i64) 3 w' w.heap.size (fun _ => True) s_.1 y480) ∧ (∃ c_, (s_.1 : Value) = .slice (some s_.2) y480.length c_) ∧ (w'.heap[gb461]? = some (.cells #[.int .i64 a1_0, .int .i64 a1_1, .int .i64 a1_2] 34 (0, 0))) ∧ (w'.heap[gb462]? = some (.cells #[.int .i64 0, .int .i64 0, .int .i64 0] 34 (0, 0))) ∧ (IsS108 w0 w' g s0_0 t484 t485) ∧ (KeepBut w w' g none) ∧ (Below w0.heap.size w0 w')) ?_ ?_
   rotate_left
   ·intro hCont
    refine two_ (i := 5) (j := 7) (Ni := some 12) (Nj := some 14) #[true, true, true, true, true, true, true, false, false, false, false, false] #[true, true, true, true, true, false, true, true, false, false, false, false] rfl rfl rfl rfl (two_of HT_.out (by kernel_rfl)) (by decide) (by decide) (fun K hK => ?_) (fun K hK => ?_)
    ·skip
     refine Kd.R_lit_step (Kd.int .i64) _ 3 ?hg (N := 12) ?hd (xs := ([(-1), a1_1, wrap64 (a1_1 + 1)] : List Int)) (inner := [.int .i64 (-1), .int .i64 a1_1, .int .i64 (wrap64 (a1_1 + 1))]) (ok := fun _ => True) (okp := fun _ => True) ?hr ?hp (fun _ hk => hk) trivial (Below.refl _ _) (Nat.le_refl _) (by simp) ?_; (case hd => rfl); (case hg => rfl); (case hr => first | (go_simp; done) | (go_simp; rfl)); (case hp => exact (Reps.one (show Kd.M (Kd.int .i64) _ _ _ (-1) [.int .i64 (-1)] from rfl) (Reps.one (show Kd.M (Kd.int .i64) _ _ _ a1_1 [.int .i64 a1_1] from rfl) (Reps.one (show Kd.M (Kd.int .i64) _ _ _ (wrap64 (a1_1 + 1)) [.int .i64 (wrap64 (a1_1 + 1))] from rfl) (Reps.none _ _)))))
     intro v481 w43 ho44 hb hg_ hnew_
     clear hg_ hnew_
     (first | rw [← Ny480.out] at ho44 | (simp only [Int.reduceToNat] at ho44; rw [← Ny480.out] at ho44))
     have HO482 := Aside0.mk (Kd.R_lower ho44 (keep_size (w := w) (g := g) (row := none) (qk HK))); replace HI0 := Aside0.mk (IsS108.below (qi HI0) hb); replace BK461 := bkb BK461 hb; replace BK462 := bkb BK462 hb; replace HK := Aside0.mk (KeepBut.trans (qk HK) (KeepBut.of_below hb g none) (.inl rfl)); replace HB := Aside0.mk (below_step (qz HB) hb); clear hb ho44
     obtain ⟨Ao45, co45, eo45⟩ := Kd.R_slice HO482.out
     subst eo45
     obtain ⟨ado45, fo45, _⟩ := Kd.at_int (Kd.R_reads' HO482.out).2.2 0 (by decide) (by rw [Ny480.out]; simp)
     cases fo45
     refine hK.out _ _ ⟨bc BK461 0, bc BK461 1, bc BK461 2⟩ (fun hHeld => ?_)
     clear hK K
     refine normP ?_
     refine one_ (i := 7) (N := some 14) #[true, true, true, true, true, true, true, true, false, false, false, false] rfl rfl (one_of HT_.out (by kernel_rfl)) (by decide) (fun K hK => ?_)
     refine goesA Try.func72 #[.pointer (some ⟨g, 0, none⟩), .int .i64 3] ?_
     with_reducible refine (spec_l4Cur_pick.calls g s0_0 t464 t465 3 t483 t484 t485 w0 _ ?side1 ?side2 A36.out).mono ?_
     (case side1 => exact qi HI0)
     (case side2 => exact qz HB)
     rintro e w46 ⟨rfl, hi, hb, hk⟩
     refine ⟨_, rfl, ?_⟩
     replace BK461 := Aside0.mk (KeepBut.blk hk (g' := gb461) (o := .cells #[.int .i64 a1_0, .int .i64 a1_1, .int .i64 a1_2] 34 (0, 0)) (qb BK461) NB461_0.out (by simp)); replace BK462 := Aside0.mk (KeepBut.blk hk (g' := gb462) (o := .cells #[.int .i64 0, .int .i64 0, .int .i64 0] 34 (0, 0)) (qb BK462) NB462_0.out (by simp)); replace HO482 := Aside0.mk (Kd.R_mono (Kd.R_keep (IsS108.apart (show IsS108 w0 _ g s0_0 t464 t465 from qi HI0) (qr HO482) (by decide)) hk (fun _ h => h.2)) (fun _ h => h.1)); replace HK := Aside0.mk (KeepBut.trans (qk HK) hk (.inl rfl)); replace HB := Aside0.mk (hb); replace HI0 := Aside0.mk (hi); clear hb hk hi
     refine hK.out _ _ ⟨bc BK461 0, bc BK461 1, bc BK461 2⟩ (fun hHeld => ?_)
     clear hK K
     refine normP ?_
     exact normA (hCont (.slice (some ado45) y480.length co45, ado45) _ ⟨hHeld, (qr HO482), ⟨_, rfl⟩, (qb BK461), (qb BK462), (qi HI0), (qk HK), (qz HB)⟩)
    skip
    refine goesA Try.func72 #[.pointer (some ⟨g, 0, none⟩), .int .i64 3] ?_
    with_reducible refine (spec_l4Cur_pick.calls g s0_0 t464 t465 3 t483 t484 t485 w0 _ ?side1 ?side2 A36.out).mono ?_
    (case side1 => exact qi HI0)
    (case side2 => exact qz HB)
    rintro e w43 ⟨rfl, hi, hb, hk⟩
    refine ⟨_, rfl, ?_⟩
    replace BK461 := Aside0.mk (KeepBut.blk hk (g' := gb461) (o := .cells #[.int .i64 a1_0, .int .i64 a1_1, .int .i64 a1_2] 34 (0, 0)) (qb BK461) NB461_0.out (by simp)); replace BK462 := Aside0.mk (KeepBut.blk hk (g' := gb462) (o := .cells #[.int .i64 0, .int .i64 0, .int .i64 0] 34 (0, 0)) (qb BK462) NB462_0.out (by simp)); replace HK := Aside0.mk (KeepBut.trans (qk HK) hk (.inl rfl)); replace HB := Aside0.mk (hb); replace HI0 := Aside0.mk (hi); clear hb hk hi
    refine hK.out _ _ ⟨bc BK461 0, bc BK461 1, bc BK461 2⟩ (fun hHeld => ?_)
    clear hK K
    refine normP ?_
    refine one_ (i := 5) (N := some 12) #[true, true, true, true, true, true, true, true, false, false, false, false] rfl rfl (one_of HT_.out (by kernel_rfl)) (by decide) (fun K hK => ?_)
    refine Kd.R_lit_step (Kd.int .i64) _ 3 ?hg (N := 12) ?hd (xs := ([(-1), a1_1, wrap64 (a1_1 + 1)] : List Int)) (inner := [.int .i64 (-1), .int .i64 a1_1, .int .i64 (wrap64 (a1_1 + 1))]) (ok := fun _ => True) (okp := fun _ => True) ?hr ?hp (fun _ hk => hk) trivial (Below.refl _ _) (Nat.le_refl _) (by simp) ?_; (case hd => rfl); (case hg => rfl); (case hr => first | (go_simp; done) | (go_simp; rfl)); (case hp => exact (Reps.one (show Kd.M (Kd.int .i64) _ _ _ (-1) [.int .i64 (-1)] from rfl) (Reps.one (show Kd.M (Kd.int .i64) _ _ _ a1_1 [.int .i64 a1_1] from rfl) (Reps.one (show Kd.M (Kd.int .i64) _ _ _ (wrap64 (a1_1 + 1)) [.int .i64 (wrap64 (a1_1 + 1))] from rfl) (Reps.none _ _)))))
    intro v481 w44 ho45 hb hg_ hnew_
    clear hg_ hnew_
    (first | rw [← Ny480.out] at ho45 | (simp only [Int.reduceToNat] at ho45; rw [← Ny480.out] at ho45))
    have HO482 := Aside0.mk (Kd.R_lower ho45 (keep_size (w := w) (g := g) (row := none) (qk HK))); replace HI0 := Aside0.mk (IsS108.below (qi HI0) hb); replace BK461 := bkb BK461 hb; replace BK462 := bkb BK462 hb; replace HK := Aside0.mk (KeepBut.trans (qk HK) (KeepBut.of_below hb g none) (.inl rfl)); replace HB := Aside0.mk (below_step (qz HB) hb); clear hb ho45
    obtain ⟨Ao46, co46, eo46⟩ := Kd.R_slice HO482.out
    subst eo46
    obtain ⟨ado46, fo46, _⟩ := Kd.at_int (Kd.R_reads' HO482.out).2.2 0 (by decide) (by rw [Ny480.out]; simp)
    cases fo46
    refine hK.out _ _ ⟨bc BK461 0, bc BK461 1, bc BK461 2⟩ (fun hHeld => ?_)
    clear hK K
    refine normP ?_
    exact normA (hCont (.slice (some ado46) y480.length co46, ado46) _ ⟨hHeld, (qr HO482), ⟨_, rfl⟩, (qb BK461), (qb BK462), (qi HI0), (qk HK), (qz HB)⟩)
   rintro ⟨v481, adz_v481⟩ w47 ⟨hS_, h0_, h1_, h2_, h3_, h4_, h5_, h6_⟩
   have HO482 : Aside0 (Kd.R (Kd.int .i64) 3 w47 w.heap.size (fun _ => True) v481 y480) := ⟨h0_⟩; have HA_HO482 : Aside0 (∃ c_, (v481 : Value) = .slice (some adz_v481) y480.length c_) := ⟨h1_⟩; replace BK461 : Aside0 (w47.heap[gb461]? = some (.cells #[.int .i64 a1_0, .int .i64 a1_1, .int .i64 a1_2] 34 (0, 0))) := ⟨h2_⟩; replace BK462 : Aside0 (w47.heap[gb462]? = some (.cells #[.int .i64 0, .int .i64 0, .int .i64 0] 34 (0, 0))) := ⟨h3_⟩; replace HI0 : Aside0 (IsS108 w0 w47 g s0_0 t484 t485) := ⟨h4_⟩; replace HK : Aside0 (KeepBut w w47 g none) := ⟨h5_⟩; replace HB : Aside0 (Below w0.heap.size w0 w47) := ⟨h6_⟩; clear h0_ h1_ h2_ h3_ h4_ h5_ h6_
   have hHeld : w47.cell? ⟨gb461, 0, none⟩ = some (.int .i64 a1_0) ∧ w47.cell? ⟨gb461, 1, none⟩ = some (.int .i64 a1_1) ∧ w47.cell? ⟨gb461, 2, none⟩ = some (.int .i64 a1_2) := hS_
   obtain ⟨co48, eo48⟩ := HA_HO482.out
   clear HA_HO482
   subst eo48
   refine normQ ?_
   refine pureA 8 15 #[true, true, true, true, true, true, true, true, true, false, false, false] (any_of HT_.out (by kernel_rfl)) ?_
   refine one_ (i := 9) (N := some 16) #[true, true, true, true, true, true, true, true, true, true, false, false] rfl rfl (one_of HT_.out (by kernel_rfl)) (by decide) (fun K hK => ?_)
   (have p486 : 0 ≤ (t483 : Int) := of_decide_eq_true (by first | (with_reducible assumption) | assumption); have q486 : t483 < (y480.length : Int) := of_decide_eq_true (by first | (with_reducible assumption) | assumption); obtain ⟨ad486, e486, hx486_0⟩ := Kd.at_int (Kd.R_reads' HO482.out).2.2 t483 p486 q486; obtain rfl : adz_v481 = ad486 := (by injection e486))
   refine value_ (w1 := ?_) (v := ?_) (by rfl) rfl ?_ ?_
   rotate_left 2
   ·go_simp
    constructor
    ·rfl
    rfl
   clear hx486_0
   refine hK.out _ _ ⟨bc BK461 0, bc BK461 1, bc BK461 2⟩ (fun hHeld => ?_)
   clear hK K
   refine normP ?_
   refine pureA 10 17 #[true, true, true, true, true, true, true, true, true, true, true, false] (any_of HT_.out (by kernel_rfl)) ?_
   refine last_ (i := 11) (N := none) #[true, true, true, true, true, true, true, true, true, true, true, true] rfl rfl (one_of HT_.out (by kernel_rfl)) (by decide) (fun K hK => ?_)
   have hs49 := b2 BK461
   have hfs49 := blk_frozen BK461.out 2
   have hns49_1 := NB462_461.out
   have hms49_1 := NB461_462.out
   refine skip_ (w1 := ?_) (by rfl) rfl ?_ ?_
   rotate_left
   ·go_simp
    rfl
   refine hK.out _ _ ?_
   clear hK K
   refine done_ (done_of HT_.out (by kernel_rfl)) ?_
   have hnb50 := NB461_462.out
   have hnc50 := NB462_461.out
   have hnb51 := NB461_0.out
   have hnc51 := NB0_461.out
   have hcz52_0 := b0 BK461
   have hcz52_1 := b1 BK461
   have hcz52_2 := b2 BK461
   have hfz52_0 := blk_frozen BK461.out 0
   have hfz52_1 := blk_frozen BK461.out 1
   have hfz52_2 := blk_frozen BK461.out 2
   have hnb53 := NB462_0.out
   have hnc53 := NB0_462.out
   have hcz54_0 := b0 BK462
   have hcz54_1 := b1 BK462
   have hcz54_2 := b2 BK462
   have hfz54_0 := blk_frozen BK462.out 0
   have hfz54_1 := blk_frozen BK462.out 1
   have hfz54_2 := blk_frozen BK462.out 2
   try go_wp2
   refine bodyPost_ret (results_cell_row rfl _ _ gb462 34 #[.int .i64 a1_0, .int .i64 a1_1, .int .i64 (rd y480 t483)] (0, 0) _ rfl (by (with_reducible repeat (first | refine blk_drewN ?_ _ | refine blk_drew ?_ | refine blk_alloc ?_ _)); refine blk_put (cs := #[.int .i64 a1_0, .int .i64 a1_1, .int .i64 0]) ?_ 2 _ rfl; (with_reducible repeat (first | refine blk_drewN ?_ _ | refine blk_drew ?_ | refine blk_alloc ?_ _)); refine blk_put (cs := #[.int .i64 a1_0, .int .i64 0, .int .i64 0]) ?_ 1 _ rfl; (with_reducible repeat (first | refine blk_drewN ?_ _ | refine blk_drew ?_ | refine blk_alloc ?_ _)); refine blk_put (cs := #[.int .i64 0, .int .i64 0, .int .i64 0]) ?_ 0 _ rfl; exact qB BK462) Try.underlying34 rfl (by kernel_rfl)) rfl ?_
   exact ⟨by first | rfl | (simp [errW_none, errW_some] <;> rfl) | (simp [*, errW_none, errW_some] <;> rfl), (qi HI0), (qz HB), (qk HK)⟩
  rw [if_neg c38] at H
  exact absurd H (by simp)
 rw [if_neg c37] at H
 exact absurd H (by simp)
def spec_l4rules.f (s0_0 : List Int) (s0_1 : Int) (s0_2 : Int) : Option (Int × Int × Int × Int × Int) := (spec_l4Cur_rules.f s0_0 s0_1 s0_2).bind fun bt488 => ((spec_l4Cur_pick.f s0_0 bt488.2.2.2.1 bt488.2.2.2.2 16).bind fun bt494 => (if bt494.1 = 0 then ((spec_l4Cur_oddrules.f s0_0 bt494.2.1 bt494.2.2 bt488.1 bt488.2.1 bt488.2.2.1).bind fun bt497 => (some (bt497.1, bt497.2.1, bt497.2.2.1, bt497.2.2.2.1, bt497.2.2.2.2))) else (some (bt488.1, bt488.2.1, bt488.2.2.1, bt494.2.1, bt494.2.2))))
set_option maxHeartbeats 8000000 in
set_option maxRecDepth 100000 in
theorem spec_l4rules.calls (g : Nat) (s0_0 : List Int) (s0_1 : Int) (s0_2 : Int) (r1 : Int) (r2 : Int) (r3 : Int) (r4 : Int) (r5 : Int) (w0 w : World) (hI : IsS108 w0 w g s0_0 s0_1 s0_2) (hB : Below w0.heap.size w0 w) (h : spec_l4rules.f s0_0 s0_1 s0_2 = some (r1, r2, r3, r4, r5)) :
  Calls Try.prog 69 #[.pointer (some ⟨g, 0, none⟩)] w fun e w' => e = .returned (.agg #[.int .i64 r1, .int .i64 r2, .int .i64 r3]) ∧ IsS108 w0 w' g s0_0 r4 r5 ∧ Below w0.heap.size w0 w' ∧ KeepBut w w' g none := by
 have hu34 := Try.underlying34
 have HI0 := Aside0.mk hI
 have HK := Aside0.mk (KeepBut.refl w g none)
 have HL := Aside0.mk hB.size
 clear hI
 have HW0 := Aside0.mk hB.size
 have HB := Aside0.mk hB
 clear hB
 have H : ((spec_l4Cur_rules.f s0_0 s0_1 s0_2).bind fun bt488 => ((spec_l4Cur_pick.f s0_0 bt488.2.2.2.1 bt488.2.2.2.2 16).bind fun bt494 => (if bt494.1 = 0 then ((spec_l4Cur_oddrules.f s0_0 bt494.2.1 bt494.2.2 bt488.1 bt488.2.1 bt488.2.2.1).bind fun bt497 => (some (bt497.1, bt497.2.1, bt497.2.2.1, bt497.2.2.2.1, bt497.2.2.2.2))) else (some (bt488.1, bt488.2.1, bt488.2.2.1, bt494.2.1, bt494.2.2))))) = some (r1, r2, r3, r4, r5) := h
 clear h
 replace H := Option.bind_eq_some_iff.mp H
 obtain ⟨⟨t488, t489, t490, t491, t492⟩, A20, H⟩ := H
 replace H : ((spec_l4Cur_pick.f s0_0 t491 t492 16).bind fun bt494 => (if bt494.1 = 0 then ((spec_l4Cur_oddrules.f s0_0 bt494.2.1 bt494.2.2 t488 t489 t490).bind fun bt497 => (some (bt497.1, bt497.2.1, bt497.2.2.1, bt497.2.2.2.1, bt497.2.2.2.2))) else (some (t488, t489, t490, bt494.2.1, bt494.2.2)))) = some (r1, r2, r3, r4, r5) := H
 have A2 := Aside0.mk A20
 clear A20
 replace H := Option.bind_eq_some_iff.mp H
 obtain ⟨⟨t494, t495, t496⟩, A30, H⟩ := H
 replace H : (if t494 = 0 then ((spec_l4Cur_oddrules.f s0_0 t495 t496 t488 t489 t490).bind fun bt497 => (some (bt497.1, bt497.2.1, bt497.2.2.1, bt497.2.2.2.1, bt497.2.2.2.2))) else (some (t488, t489, t490, t495, t496))) = some (r1, r2, r3, r4, r5) := H
 have A3 := Aside0.mk A30
 clear A30
 by_cases c4 : t494 = 0
 ·rw [if_pos c4] at H
  have c4b0 : (t494 == 0) = true := beq_iff_eq.mpr c4
  have c4b1 : (t494 != 0) = false := bne_eq_false_iff_eq.mpr c4
  clear c4
  replace H := Option.bind_eq_some_iff.mp H
  obtain ⟨⟨t497, t498, t499, t500, t501⟩, A50, H⟩ := H
  replace H : (some (t497, t498, t499, t500, t501)) = some (r1, r2, r3, r4, r5) := H
  have A5 := Aside0.mk A50
  clear A50
  simp only [Option.some.injEq, Prod.mk.injEq] at H
  obtain ⟨rfl, rfl, rfl, rfl, rfl⟩ := H
  go_enter Try.func69, Try.ntmps69
  go_wp2_with (first | ((with_reducible refine gate_dst (N := 2) rfl ?_); refine boxA #[.int .i64 0, .int .i64 0, .int .i64 0] 34 ?_; intro gb487 hg w6 hbox hb; replace HB := Aside0.mk (below_step (qz HB) hb); have BK487 := Aside0.mk (hbox); have GW487 := Aside0.mk ((by rw [hg]; exact (keep_size (w := w) (g := g) (row := none) (qk HK)) : w.heap.size ≤ gb487)); have GE487 := Aside0.mk ((Nat.le_trans HW0.out (by rw [hg]; exact (keep_size (w := w) (g := g) (row := none) (qk HK)) : w.heap.size ≤ gb487) : w0.heap.size ≤ gb487)); replace HK := Aside0.mk (KeepBut.trans (qk HK) (KeepBut.of_below hb g none) (.inl rfl)); have NB0_487 := Aside0.mk ((by rw [hg]; exact Nat.ne_of_lt (IsS108.lt (show IsS108 w0 _ g s0_0 s0_1 s0_2 from qi HI0)) : g ≠ gb487)); have NB487_0 := Aside0.mk ((by rw [hg]; exact Nat.ne_of_gt (IsS108.lt (show IsS108 w0 _ g s0_0 s0_1 s0_2 from qi HI0)) : gb487 ≠ g)); replace HI0 := Aside0.mk (IsS108.below (qi HI0) hb); clear hb hbox hg) | ((with_reducible refine gate_callee (f := 91) rfl ?_); refine goesLA (some 5) rfl Try.func91 #[.pointer (some ⟨g, 0, none⟩)] ?_; (with_reducible refine (spec_l4Cur_rules.calls g s0_0 s0_1 s0_2 t488 t489 t490 t491 t492 w0 _ ?side1 ?side2 A2.out).mono ?_); (case side1 => exact qi HI0); (case side2 => exact qz HB); rintro e w7 ⟨rfl, hi, hb, hk⟩; refine ⟨_, rfl, ?_⟩; replace BK487 := Aside0.mk (KeepBut.blk hk (g' := gb487) (o := .cells #[.int .i64 0, .int .i64 0, .int .i64 0] 34 (0, 0)) (qb BK487) NB487_0.out (by simp)); replace HK := Aside0.mk (KeepBut.trans (qk HK) hk (.inl rfl)); replace HB := Aside0.mk (hb); replace HI0 := Aside0.mk (hi); clear hb hk hi) | ((with_reducible refine gate_dst (N := 3) rfl ?_); refine boxA #[.int .i64 0, .int .i64 0, .int .i64 0] 34 ?_; intro gb493 hg w8 hbox hb; replace HB := Aside0.mk (below_step (qz HB) hb); have BK493 := Aside0.mk (hbox); have GW493 := Aside0.mk ((by rw [hg]; exact (keep_size (w := w) (g := g) (row := none) (qk HK)) : w.heap.size ≤ gb493)); have GE493 := Aside0.mk ((Nat.le_trans HW0.out (by rw [hg]; exact (keep_size (w := w) (g := g) (row := none) (qk HK)) : w.heap.size ≤ gb493) : w0.heap.size ≤ gb493)); replace HK := Aside0.mk (KeepBut.trans (qk HK) (KeepBut.of_below hb g none) (.inl rfl)); have NB487_493 := nlt BK487 hg; have NB493_487 := ngt BK487 hg; replace BK487 := bkb BK487 hb; have NB0_493 := Aside0.mk ((by rw [hg]; exact Nat.ne_of_lt (IsS108.lt (show IsS108 w0 _ g s0_0 t491 t492 from qi HI0)) : g ≠ gb493)); have NB493_0 := Aside0.mk ((by rw [hg]; exact Nat.ne_of_gt (IsS108.lt (show IsS108 w0 _ g s0_0 t491 t492 from qi HI0)) : gb493 ≠ g)); replace HI0 := Aside0.mk (IsS108.below (qi HI0) hb); clear hb hbox hg; have hnb9 := NB493_487.out; have hnc9 := NB487_493.out; have hnb10 := NB493_0.out; have hnc10 := NB0_493.out; have hcz11_0 := b0 BK493; have hcz11_1 := b1 BK493; have hcz11_2 := b2 BK493; have hfz11_0 := blk_frozen BK493.out 0; have hfz11_1 := blk_frozen BK493.out 1; have hfz11_2 := blk_frozen BK493.out 2) | ((with_reducible refine gate_callee (f := 72) rfl ?_); refine goesLA (some 7) rfl Try.func72 #[.pointer (some ⟨g, 0, none⟩), .int .i64 16] ?_; (with_reducible refine (spec_l4Cur_pick.calls g s0_0 t491 t492 16 t494 t495 t496 w0 _ ?side1 ?side2 A3.out).mono ?_); (case side1 => exact qi HI0); (case side2 => exact qz HB); rintro e w12 ⟨rfl, hi, hb, hk⟩; refine ⟨_, rfl, ?_⟩; replace BK487 := Aside0.mk (KeepBut.blk hk (g' := gb487) (o := .cells #[.int .i64 0, .int .i64 0, .int .i64 0] 34 (0, 0)) (qB BK487) NB487_0.out (by simp)); replace BK493 := Aside0.mk (KeepBut.blk hk (g' := gb493) (o := .cells #[.int .i64 t488, .int .i64 t489, .int .i64 t490] 34 (0, 0)) (by (with_reducible repeat (first | refine blk_drewN ?_ _ | refine blk_drew ?_ | refine blk_alloc ?_ _)); refine blk_put (cs := #[.int .i64 t488, .int .i64 t489, .int .i64 0]) ?_ 2 _ rfl; (with_reducible repeat (first | refine blk_drewN ?_ _ | refine blk_drew ?_ | refine blk_alloc ?_ _)); refine blk_put (cs := #[.int .i64 t488, .int .i64 0, .int .i64 0]) ?_ 1 _ rfl; (with_reducible repeat (first | refine blk_drewN ?_ _ | refine blk_drew ?_ | refine blk_alloc ?_ _)); refine blk_put (cs := #[.int .i64 0, .int .i64 0, .int .i64 0]) ?_ 0 _ rfl; (with_reducible repeat (first | refine blk_drewN ?_ _ | refine blk_drew ?_ | refine blk_alloc ?_ _)); exact BK493.out) NB493_0.out (by simp)); replace HK := Aside0.mk (KeepBut.trans (qk HK) hk (.inl rfl)); replace HB := Aside0.mk (hb); replace HI0 := Aside0.mk (hi); clear hb hk hi; have hcz13_0 := b0 BK493; have hcz13_1 := b1 BK493; have hcz13_2 := b2 BK493; have hfz13_0 := blk_frozen BK493.out 0; have hfz13_1 := blk_frozen BK493.out 1; have hfz13_2 := blk_frozen BK493.out 2) | ((with_reducible refine gate_callee (f := 97) rfl ?_); refine goesLA (some 11) rfl Try.func97 #[.pointer (some ⟨g, 0, none⟩), .agg #[.int .i64 t488, .int .i64 t489, .int .i64 t490]] ?_; (with_reducible refine (spec_l4Cur_oddrules.calls g s0_0 t495 t496 t488 t489 t490 t497 t498 t499 t500 t501 w0 _ ?side1 ?side2 A5.out).mono ?_); (case side1 => exact qi HI0); (case side2 => exact qz HB); rintro e w14 ⟨rfl, hi, hb, hk⟩; refine ⟨_, rfl, ?_⟩; replace BK487 := Aside0.mk (KeepBut.blk hk (g' := gb487) (o := .cells #[.int .i64 0, .int .i64 0, .int .i64 0] 34 (0, 0)) (qb BK487) NB487_0.out (by simp)); replace BK493 := Aside0.mk (KeepBut.blk hk (g' := gb493) (o := .cells #[.int .i64 t488, .int .i64 t489, .int .i64 t490] 34 (0, 0)) (qb BK493) NB493_0.out (by simp)); replace HK := Aside0.mk (KeepBut.trans (qk HK) hk (.inl rfl)); replace HB := Aside0.mk (hb); replace HI0 := Aside0.mk (hi); clear hb hk hi; have hcz15_0 := b0 BK493; have hcz15_1 := b1 BK493; have hcz15_2 := b2 BK493; have hfz15_0 := blk_frozen BK493.out 0; have hfz15_1 := blk_frozen BK493.out 1; have hfz15_2 := blk_frozen BK493.out 2; have hnb16 := NB487_0.out; have hnc16 := NB0_487.out; have hcz17_0 := b0 BK487; have hcz17_1 := b1 BK487; have hcz17_2 := b2 BK487; have hfz17_0 := blk_frozen BK487.out 0; have hfz17_1 := blk_frozen BK487.out 1; have hfz17_2 := blk_frozen BK487.out 2))
  refine bodyPost_ret (results_cell_row rfl _ _ gb487 34 #[.int .i64 t497, .int .i64 t498, .int .i64 t499] (0, 0) _ rfl (by (with_reducible repeat (first | refine blk_drewN ?_ _ | refine blk_drew ?_ | refine blk_alloc ?_ _)); refine blk_put (cs := #[.int .i64 t497, .int .i64 t498, .int .i64 0]) ?_ 2 _ rfl; (with_reducible repeat (first | refine blk_drewN ?_ _ | refine blk_drew ?_ | refine blk_alloc ?_ _)); refine blk_put (cs := #[.int .i64 t497, .int .i64 0, .int .i64 0]) ?_ 1 _ rfl; (with_reducible repeat (first | refine blk_drewN ?_ _ | refine blk_drew ?_ | refine blk_alloc ?_ _)); refine blk_put (cs := #[.int .i64 0, .int .i64 0, .int .i64 0]) ?_ 0 _ rfl; exact qB BK487) Try.underlying34 rfl (by kernel_rfl)) rfl ?_
  exact ⟨by first | rfl | (simp [errW_none, errW_some] <;> rfl) | (simp [*, errW_none, errW_some] <;> rfl), (qi HI0), (qz HB), (qk HK)⟩
 rw [if_neg c4] at H
 have c4b0 : (t494 == 0) = false := beq_eq_false_iff_ne.mpr c4
 have c4b1 : (t494 != 0) = true := bne_iff_ne.mpr c4
 simp only [Option.some.injEq, Prod.mk.injEq] at H
 obtain ⟨rfl, rfl, rfl, rfl, rfl⟩ := H
 go_enter Try.func69, Try.ntmps69
 go_wp2_with (first | ((with_reducible refine gate_dst (N := 2) rfl ?_); refine boxA #[.int .i64 0, .int .i64 0, .int .i64 0] 34 ?_; intro gb487 hg w18 hbox hb; replace HB := Aside0.mk (below_step (qz HB) hb); have BK487 := Aside0.mk (hbox); have GW487 := Aside0.mk ((by rw [hg]; exact (keep_size (w := w) (g := g) (row := none) (qk HK)) : w.heap.size ≤ gb487)); have GE487 := Aside0.mk ((Nat.le_trans HW0.out (by rw [hg]; exact (keep_size (w := w) (g := g) (row := none) (qk HK)) : w.heap.size ≤ gb487) : w0.heap.size ≤ gb487)); replace HK := Aside0.mk (KeepBut.trans (qk HK) (KeepBut.of_below hb g none) (.inl rfl)); have NB0_487 := Aside0.mk ((by rw [hg]; exact Nat.ne_of_lt (IsS108.lt (show IsS108 w0 _ g s0_0 s0_1 s0_2 from qi HI0)) : g ≠ gb487)); have NB487_0 := Aside0.mk ((by rw [hg]; exact Nat.ne_of_gt (IsS108.lt (show IsS108 w0 _ g s0_0 s0_1 s0_2 from qi HI0)) : gb487 ≠ g)); replace HI0 := Aside0.mk (IsS108.below (qi HI0) hb); clear hb hbox hg) | ((with_reducible refine gate_callee (f := 91) rfl ?_); refine goesLA (some 5) rfl Try.func91 #[.pointer (some ⟨g, 0, none⟩)] ?_; (with_reducible refine (spec_l4Cur_rules.calls g s0_0 s0_1 s0_2 t488 t489 t490 t491 t492 w0 _ ?side1 ?side2 A2.out).mono ?_); (case side1 => exact qi HI0); (case side2 => exact qz HB); rintro e w19 ⟨rfl, hi, hb, hk⟩; refine ⟨_, rfl, ?_⟩; replace BK487 := Aside0.mk (KeepBut.blk hk (g' := gb487) (o := .cells #[.int .i64 0, .int .i64 0, .int .i64 0] 34 (0, 0)) (qb BK487) NB487_0.out (by simp)); replace HK := Aside0.mk (KeepBut.trans (qk HK) hk (.inl rfl)); replace HB := Aside0.mk (hb); replace HI0 := Aside0.mk (hi); clear hb hk hi) | ((with_reducible refine gate_dst (N := 3) rfl ?_); refine boxA #[.int .i64 0, .int .i64 0, .int .i64 0] 34 ?_; intro gb493 hg w20 hbox hb; replace HB := Aside0.mk (below_step (qz HB) hb); have BK493 := Aside0.mk (hbox); have GW493 := Aside0.mk ((by rw [hg]; exact (keep_size (w := w) (g := g) (row := none) (qk HK)) : w.heap.size ≤ gb493)); have GE493 := Aside0.mk ((Nat.le_trans HW0.out (by rw [hg]; exact (keep_size (w := w) (g := g) (row := none) (qk HK)) : w.heap.size ≤ gb493) : w0.heap.size ≤ gb493)); replace HK := Aside0.mk (KeepBut.trans (qk HK) (KeepBut.of_below hb g none) (.inl rfl)); have NB487_493 := nlt BK487 hg; have NB493_487 := ngt BK487 hg; replace BK487 := bkb BK487 hb; have NB0_493 := Aside0.mk ((by rw [hg]; exact Nat.ne_of_lt (IsS108.lt (show IsS108 w0 _ g s0_0 t491 t492 from qi HI0)) : g ≠ gb493)); have NB493_0 := Aside0.mk ((by rw [hg]; exact Nat.ne_of_gt (IsS108.lt (show IsS108 w0 _ g s0_0 t491 t492 from qi HI0)) : gb493 ≠ g)); replace HI0 := Aside0.mk (IsS108.below (qi HI0) hb); clear hb hbox hg; have hnb21 := NB493_487.out; have hnc21 := NB487_493.out; have hnb22 := NB493_0.out; have hnc22 := NB0_493.out; have hcz23_0 := b0 BK493; have hcz23_1 := b1 BK493; have hcz23_2 := b2 BK493; have hfz23_0 := blk_frozen BK493.out 0; have hfz23_1 := blk_frozen BK493.out 1; have hfz23_2 := blk_frozen BK493.out 2) | ((with_reducible refine gate_callee (f := 72) rfl ?_); refine goesLA (some 7) rfl Try.func72 #[.pointer (some ⟨g, 0, none⟩), .int .i64 16] ?_; (with_reducible refine (spec_l4Cur_pick.calls g s0_0 t491 t492 16 t494 t495 t496 w0 _ ?side1 ?side2 A3.out).mono ?_); (case side1 => exact qi HI0); (case side2 => exact qz HB); rintro e w24 ⟨rfl, hi, hb, hk⟩; refine ⟨_, rfl, ?_⟩; replace BK487 := Aside0.mk (KeepBut.blk hk (g' := gb487) (o := .cells #[.int .i64 0, .int .i64 0, .int .i64 0] 34 (0, 0)) (qB BK487) NB487_0.out (by simp)); replace BK493 := Aside0.mk (KeepBut.blk hk (g' := gb493) (o := .cells #[.int .i64 t488, .int .i64 t489, .int .i64 t490] 34 (0, 0)) (by (with_reducible repeat (first | refine blk_drewN ?_ _ | refine blk_drew ?_ | refine blk_alloc ?_ _)); refine blk_put (cs := #[.int .i64 t488, .int .i64 t489, .int .i64 0]) ?_ 2 _ rfl; (with_reducible repeat (first | refine blk_drewN ?_ _ | refine blk_drew ?_ | refine blk_alloc ?_ _)); refine blk_put (cs := #[.int .i64 t488, .int .i64 0, .int .i64 0]) ?_ 1 _ rfl; (with_reducible repeat (first | refine blk_drewN ?_ _ | refine blk_drew ?_ | refine blk_alloc ?_ _)); refine blk_put (cs := #[.int .i64 0, .int .i64 0, .int .i64 0]) ?_ 0 _ rfl; (with_reducible repeat (first | refine blk_drewN ?_ _ | refine blk_drew ?_ | refine blk_alloc ?_ _)); exact BK493.out) NB493_0.out (by simp)); replace HK := Aside0.mk (KeepBut.trans (qk HK) hk (.inl rfl)); replace HB := Aside0.mk (hb); replace HI0 := Aside0.mk (hi); clear hb hk hi; have hcz25_0 := b0 BK493; have hcz25_1 := b1 BK493; have hcz25_2 := b2 BK493; have hfz25_0 := blk_frozen BK493.out 0; have hfz25_1 := blk_frozen BK493.out 1; have hfz25_2 := blk_frozen BK493.out 2; have hnb26 := NB487_0.out; have hnc26 := NB0_487.out; have hcz27_0 := b0 BK487; have hcz27_1 := b1 BK487; have hcz27_2 := b2 BK487; have hfz27_0 := blk_frozen BK487.out 0; have hfz27_1 := blk_frozen BK487.out 1; have hfz27_2 := blk_frozen BK487.out 2))
 refine bodyPost_ret (results_cell_row rfl _ _ gb487 34 #[.int .i64 t488, .int .i64 t489, .int .i64 t490] (0, 0) _ rfl (by (with_reducible repeat (first | refine blk_drewN ?_ _ | refine blk_drew ?_ | refine blk_alloc ?_ _)); refine blk_put (cs := #[.int .i64 t488, .int .i64 t489, .int .i64 0]) ?_ 2 _ rfl; (with_reducible repeat (first | refine blk_drewN ?_ _ | refine blk_drew ?_ | refine blk_alloc ?_ _)); refine blk_put (cs := #[.int .i64 t488, .int .i64 0, .int .i64 0]) ?_ 1 _ rfl; (with_reducible repeat (first | refine blk_drewN ?_ _ | refine blk_drew ?_ | refine blk_alloc ?_ _)); refine blk_put (cs := #[.int .i64 0, .int .i64 0, .int .i64 0]) ?_ 0 _ rfl; (with_reducible repeat (first | refine blk_drewN ?_ _ | refine blk_drew ?_ | refine blk_alloc ?_ _)); exact BK487.out) Try.underlying34 rfl (by kernel_rfl)) rfl ?_
 exact ⟨by first | rfl | (simp [errW_none, errW_some] <;> rfl) | (simp [*, errW_none, errW_some] <;> rfl), (qi HI0), (qz HB), (qk HK)⟩
def spec_l4Cur_now.f (s0_0 : List Int) (s0_1 : Int) (s0_2 : Int) : Option (Int × Int × Int) := (spec_l4Cur_pick.f s0_0 s0_1 s0_2 20).bind fun bt502 => (if bt502.1 = 0 then ((some (([(-1), 0, 1000000000, 1000000001] : List Int) : List Int)).bind fun y505 => ((spec_l4Cur_pick.f s0_0 bt502.2.1 bt502.2.2 4).bind fun bt508 => (if 0 ≤ bt508.1 then (if bt508.1 < (y505.length : Int) then (some (rd y505 bt508.1, bt508.2.1, bt508.2.2)) else (none)) else (none)))) else ((spec_l4Cur_pick.f s0_0 bt502.2.1 bt502.2.2 50).bind fun bt512 => (some (bt512.1, bt512.2.1, bt512.2.2))))
set_option maxHeartbeats 8000000 in
set_option maxRecDepth 100000 in
theorem spec_l4Cur_now.calls (g : Nat) (s0_0 : List Int) (s0_1 : Int) (s0_2 : Int) (r1 : Int) (r2 : Int) (r3 : Int) (w0 w : World) (hI : IsS108 w0 w g s0_0 s0_1 s0_2) (hB : Below w0.heap.size w0 w) (h : spec_l4Cur_now.f s0_0 s0_1 s0_2 = some (r1, r2, r3)) :
  Calls Try.prog 70 #[.pointer (some ⟨g, 0, none⟩)] w fun e w' => e = .returned (.int .i64 r1) ∧ IsS108 w0 w' g s0_0 r2 r3 ∧ Below w0.heap.size w0 w' ∧ KeepBut w w' g none := by
 have HI0 := Aside0.mk hI
 have HK := Aside0.mk (KeepBut.refl w g none)
 have HL := Aside0.mk hB.size
 clear hI
 have HW0 := Aside0.mk hB.size
 have HB := Aside0.mk hB
 clear hB
 have H : ((spec_l4Cur_pick.f s0_0 s0_1 s0_2 20).bind fun bt502 => (if bt502.1 = 0 then ((some (([(-1), 0, 1000000000, 1000000001] : List Int) : List Int)).bind fun y505 => ((spec_l4Cur_pick.f s0_0 bt502.2.1 bt502.2.2 4).bind fun bt508 => (if 0 ≤ bt508.1 then (if bt508.1 < (y505.length : Int) then (some (rd y505 bt508.1, bt508.2.1, bt508.2.2)) else (none)) else (none)))) else ((spec_l4Cur_pick.f s0_0 bt502.2.1 bt502.2.2 50).bind fun bt512 => (some (bt512.1, bt512.2.1, bt512.2.2))))) = some (r1, r2, r3) := h
 clear h
 replace H := Option.bind_eq_some_iff.mp H
 obtain ⟨⟨t502, t503, t504⟩, A20, H⟩ := H
 replace H : (if t502 = 0 then ((some (([(-1), 0, 1000000000, 1000000001] : List Int) : List Int)).bind fun y505 => ((spec_l4Cur_pick.f s0_0 t503 t504 4).bind fun bt508 => (if 0 ≤ bt508.1 then (if bt508.1 < (y505.length : Int) then (some (rd y505 bt508.1, bt508.2.1, bt508.2.2)) else (none)) else (none)))) else ((spec_l4Cur_pick.f s0_0 t503 t504 50).bind fun bt512 => (some (bt512.1, bt512.2.1, bt512.2.2)))) = some (r1, r2, r3) := H
 have A2 := Aside0.mk A20
 clear A20
 by_cases c3 : t502 = 0
 ·rw [if_pos c3] at H
  have c3b0 : (t502 == 0) = true := beq_iff_eq.mpr c3
  have c3b1 : (t502 != 0) = false := bne_eq_false_iff_eq.mpr c3
  clear c3
  obtain ⟨y505, hy505⟩ : ∃ y_ : List Int, y_ = (([(-1), 0, 1000000000, 1000000001] : List Int)) := ⟨_, rfl⟩
  replace H : ((spec_l4Cur_pick.f s0_0 t503 t504 4).bind fun bt508 => (if 0 ≤ bt508.1 then (if bt508.1 < (y505.length : Int) then (some (rd y505 bt508.1, bt508.2.1, bt508.2.2)) else (none)) else (none))) = some (r1, r2, r3) := by first | (rw [hy505]; with_reducible exact H) | (have H2_ := (Option.bind_some _ _).symm.trans H; rw [hy505]; with_reducible exact H2_) | (have H2_ := (Option.bind_some _ _).symm.trans H; with_reducible exact H2_) | with_reducible exact H | (rw [hy505]; exact H) | exact H
  have Ny505 := Aside0.mk hy505
  clear hy505
  replace H := Option.bind_eq_some_iff.mp H
  obtain ⟨⟨t508, t509, t510⟩, A40, H⟩ := H
  replace H : (if 0 ≤ t508 then (if t508 < (y505.length : Int) then (some (rd y505 t508, t509, t510)) else (none)) else (none)) = some (r1, r2, r3) := H
  have A4 := Aside0.mk A40
  clear A40
  by_cases c5 : 0 ≤ t508
  ·rw [if_pos c5] at H
   have c5b0 : decide (0 ≤ t508) = true := decide_eq_true c5
   clear c5
   by_cases c6 : t508 < (y505.length : Int)
   ·rw [if_pos c6] at H
    have c6b0 : decide (t508 < (y505.length : Int)) = true := decide_eq_true c6
    clear c6
    simp only [Option.some.injEq, Prod.mk.injEq] at H
    obtain ⟨rfl, rfl, rfl⟩ := H
    go_enter Try.func70, Try.ntmps70
    go_wp2_with (first | ((with_reducible refine gate_callee (f := 72) rfl ?_); refine goesLA (some 4) rfl Try.func72 #[.pointer (some ⟨g, 0, none⟩), .int .i64 20] ?_; (with_reducible refine (spec_l4Cur_pick.calls g s0_0 s0_1 s0_2 20 t502 t503 t504 w0 _ ?side1 ?side2 A2.out).mono ?_); (case side1 => exact qi HI0); (case side2 => exact qz HB); rintro e w7 ⟨rfl, hi, hb, hk⟩; refine ⟨_, rfl, ?_⟩; replace HK := Aside0.mk (KeepBut.trans (qk HK) hk (.inl rfl)); replace HB := Aside0.mk (hb); replace HI0 := Aside0.mk (hi); clear hb hk hi) | ((with_reducible refine gate_dst (N := 6) rfl ?_); refine Kd.R_lit (Kd.int .i64) _ 3 ?hg (N := 6) ?hd (xs := ([(-1), 0, 1000000000, 1000000001] : List Int)) (inner := [.int .i64 (-1), .int .i64 0, .int .i64 1000000000, .int .i64 1000000001]) (ok := fun _ => True) (okp := fun _ => True) ?hr ?hp (fun _ hk => hk) trivial (Below.refl _ _) (Nat.le_refl _) (by simp) ?_; (case hd => rfl); (case hg => rfl); (case hr => first | (go_simp; done) | (go_simp; rfl)); (case hp => exact (Reps.one (show Kd.M (Kd.int .i64) _ _ _ (-1) [.int .i64 (-1)] from rfl) (Reps.one (show Kd.M (Kd.int .i64) _ _ _ 0 [.int .i64 0] from rfl) (Reps.one (show Kd.M (Kd.int .i64) _ _ _ 1000000000 [.int .i64 1000000000] from rfl) (Reps.one (show Kd.M (Kd.int .i64) _ _ _ 1000000001 [.int .i64 1000000001] from rfl) (Reps.none _ _)))))); intro v506 w8 ho9 hb hg_ hnew_; clear hg_ hnew_; (first | rw [← Ny505.out] at ho9 | (simp only [Int.reduceToNat] at ho9; rw [← Ny505.out] at ho9)); have HO507 := Aside0.mk (Kd.R_lower ho9 (keep_size (w := w) (g := g) (row := none) (qk HK))); replace HI0 := Aside0.mk (IsS108.below (qi HI0) hb); replace HK := Aside0.mk (KeepBut.trans (qk HK) (KeepBut.of_below hb g none) (.inl rfl)); replace HB := Aside0.mk (below_step (qz HB) hb); clear hb ho9) | ((with_reducible refine gate_callee (f := 72) rfl ?_); refine goesLA (some 8) rfl Try.func72 #[.pointer (some ⟨g, 0, none⟩), .int .i64 4] ?_; (with_reducible refine (spec_l4Cur_pick.calls g s0_0 t503 t504 4 t508 t509 t510 w0 _ ?side1 ?side2 A4.out).mono ?_); (case side1 => exact qi HI0); (case side2 => exact qz HB); rintro e w10 ⟨rfl, hi, hb, hk⟩; refine ⟨_, rfl, ?_⟩; replace HO507 := Aside0.mk (Kd.R_mono (Kd.R_keep (IsS108.apart (show IsS108 w0 _ g s0_0 t503 t504 from qi HI0) (qr HO507) (by decide)) hk (fun _ h => h.2)) (fun _ h => h.1)); replace HK := Aside0.mk (KeepBut.trans (qk HK) hk (.inl rfl)); replace HB := Aside0.mk (hb); replace HI0 := Aside0.mk (hi); clear hb hk hi; obtain ⟨Ao11, co11, eo11⟩ := Kd.R_slice HO507.out; subst eo11; have p511 : 0 ≤ (t508 : Int) := of_decide_eq_true (by first | (with_reducible assumption) | assumption); have q511 : t508 < (y505.length : Int) := of_decide_eq_true (by first | (with_reducible assumption) | assumption); obtain ⟨ad511, e511, hx511_0⟩ := Kd.at_int (Kd.R_reads' HO507.out).2.2 t508 p511 q511; cases e511; replace p511 := eq_true p511; replace q511 := eq_true q511))
    go_ret
    exact ⟨by first | rfl | (simp [errW_none, errW_some] <;> rfl) | (simp [*, errW_none, errW_some] <;> rfl), (qi HI0), (qz HB), (qk HK)⟩
   rw [if_neg c6] at H
   exact absurd H (by simp)
  rw [if_neg c5] at H
  exact absurd H (by simp)
 rw [if_neg c3] at H
 have c3b0 : (t502 == 0) = false := beq_eq_false_iff_ne.mpr c3
 have c3b1 : (t502 != 0) = true := bne_iff_ne.mpr c3
 replace H := Option.bind_eq_some_iff.mp H
 obtain ⟨⟨t512, t513, t514⟩, A120, H⟩ := H
 replace H : (some (t512, t513, t514)) = some (r1, r2, r3) := H
 have A12 := Aside0.mk A120
 clear A120
 simp only [Option.some.injEq, Prod.mk.injEq] at H
 obtain ⟨rfl, rfl, rfl⟩ := H
 go_enter Try.func70, Try.ntmps70
 go_wp2_with (first | ((with_reducible refine gate_callee (f := 72) rfl ?_); refine goesLA (some 4) rfl Try.func72 #[.pointer (some ⟨g, 0, none⟩), .int .i64 20] ?_; (with_reducible refine (spec_l4Cur_pick.calls g s0_0 s0_1 s0_2 20 t502 t503 t504 w0 _ ?side1 ?side2 A2.out).mono ?_); (case side1 => exact qi HI0); (case side2 => exact qz HB); rintro e w13 ⟨rfl, hi, hb, hk⟩; refine ⟨_, rfl, ?_⟩; replace HK := Aside0.mk (KeepBut.trans (qk HK) hk (.inl rfl)); replace HB := Aside0.mk (hb); replace HI0 := Aside0.mk (hi); clear hb hk hi) | ((with_reducible refine gate_callee (f := 72) rfl ?_); refine goesLA (some 12) rfl Try.func72 #[.pointer (some ⟨g, 0, none⟩), .int .i64 50] ?_; (with_reducible refine (spec_l4Cur_pick.calls g s0_0 t503 t504 50 t512 t513 t514 w0 _ ?side1 ?side2 A12.out).mono ?_); (case side1 => exact qi HI0); (case side2 => exact qz HB); rintro e w14 ⟨rfl, hi, hb, hk⟩; refine ⟨_, rfl, ?_⟩; replace HK := Aside0.mk (KeepBut.trans (qk HK) hk (.inl rfl)); replace HB := Aside0.mk (hb); replace HI0 := Aside0.mk (hi); clear hb hk hi))
 go_ret
 exact ⟨by first | rfl | (simp [errW_none, errW_some] <;> rfl) | (simp [*, errW_none, errW_some] <;> rfl), (qi HI0), (qz HB), (qk HK)⟩
def spec_l4Cur_whole.f (s0_0 : List Int) (s0_1 : Int) (s0_2 : Int) : Option (Int × Int × Int) := (spec_l4Cur_pick.f s0_0 s0_1 s0_2 6).bind fun bt515 => (if bt515.1 = 0 then ((spec_l4Cur_pick.f s0_0 bt515.2.1 bt515.2.2 3).bind fun bt518 => (some (wrap64 (9223372036854775807 - bt518.1), bt518.2.1, bt518.2.2))) else (if bt515.1 = 1 then ((spec_l4Cur_pick.f s0_0 bt515.2.1 bt515.2.2 3).bind fun bt521 => (some (wrap64 ((-9223372036854775808) + bt521.1), bt521.2.1, bt521.2.2))) else (if bt515.1 = 2 then ((spec_l4Cur_pick.f s0_0 bt515.2.1 bt515.2.2 70000).bind fun bt524 => (some (wrap64 (bt524.1 - 35000), bt524.2.1, bt524.2.2))) else ((spec_l4Cur_pick.f s0_0 bt515.2.1 bt515.2.2 12).bind fun bt527 => (some (wrap64 (bt527.1 - 3), bt527.2.1, bt527.2.2))))))
set_option maxHeartbeats 8000000 in
set_option maxRecDepth 100000 in
theorem spec_l4Cur_whole.calls (g : Nat) (s0_0 : List Int) (s0_1 : Int) (s0_2 : Int) (r1 : Int) (r2 : Int) (r3 : Int) (w0 w : World) (hI : IsS108 w0 w g s0_0 s0_1 s0_2) (hB : Below w0.heap.size w0 w) (h : spec_l4Cur_whole.f s0_0 s0_1 s0_2 = some (r1, r2, r3)) :
  Calls Try.prog 73 #[.pointer (some ⟨g, 0, none⟩)] w fun e w' => e = .returned (.int .i64 r1) ∧ IsS108 w0 w' g s0_0 r2 r3 ∧ Below w0.heap.size w0 w' ∧ KeepBut w w' g none := by
 have HI0 := Aside0.mk hI
 have HK := Aside0.mk (KeepBut.refl w g none)
 have HL := Aside0.mk hB.size
 clear hI
 have HW0 := Aside0.mk hB.size
 have HB := Aside0.mk hB
 clear hB
 have H : ((spec_l4Cur_pick.f s0_0 s0_1 s0_2 6).bind fun bt515 => (if bt515.1 = 0 then ((spec_l4Cur_pick.f s0_0 bt515.2.1 bt515.2.2 3).bind fun bt518 => (some (wrap64 (9223372036854775807 - bt518.1), bt518.2.1, bt518.2.2))) else (if bt515.1 = 1 then ((spec_l4Cur_pick.f s0_0 bt515.2.1 bt515.2.2 3).bind fun bt521 => (some (wrap64 ((-9223372036854775808) + bt521.1), bt521.2.1, bt521.2.2))) else (if bt515.1 = 2 then ((spec_l4Cur_pick.f s0_0 bt515.2.1 bt515.2.2 70000).bind fun bt524 => (some (wrap64 (bt524.1 - 35000), bt524.2.1, bt524.2.2))) else ((spec_l4Cur_pick.f s0_0 bt515.2.1 bt515.2.2 12).bind fun bt527 => (some (wrap64 (bt527.1 - 3), bt527.2.1, bt527.2.2))))))) = some (r1, r2, r3) := h
 clear h
 replace H := Option.bind_eq_some_iff.mp H
 obtain ⟨⟨t515, t516, t517⟩, A20, H⟩ := H
 replace H : (if t515 = 0 then ((spec_l4Cur_pick.f s0_0 t516 t517 3).bind fun bt518 => (some (wrap64 (9223372036854775807 - bt518.1), bt518.2.1, bt518.2.2))) else (if t515 = 1 then ((spec_l4Cur_pick.f s0_0 t516 t517 3).bind fun bt521 => (some (wrap64 ((-9223372036854775808) + bt521.1), bt521.2.1, bt521.2.2))) else (if t515 = 2 then ((spec_l4Cur_pick.f s0_0 t516 t517 70000).bind fun bt524 => (some (wrap64 (bt524.1 - 35000), bt524.2.1, bt524.2.2))) else ((spec_l4Cur_pick.f s0_0 t516 t517 12).bind fun bt527 => (some (wrap64 (bt527.1 - 3), bt527.2.1, bt527.2.2)))))) = some (r1, r2, r3) := H
 have A2 := Aside0.mk A20
 clear A20
 by_cases c3 : t515 = 0
 ·rw [if_pos c3] at H
  have c3b0 : (t515 == 0) = true := beq_iff_eq.mpr c3
  have c3b1 : (t515 != 0) = false := bne_eq_false_iff_eq.mpr c3
  clear c3
  replace H := Option.bind_eq_some_iff.mp H
  obtain ⟨⟨t518, t519, t520⟩, A40, H⟩ := H
  replace H : (some (wrap64 (9223372036854775807 - t518), t519, t520)) = some (r1, r2, r3) := H
  have A4 := Aside0.mk A40
  clear A40
  simp only [Option.some.injEq, Prod.mk.injEq] at H
  obtain ⟨rfl, rfl, rfl⟩ := H
  go_enter Try.func73, Try.ntmps73
  go_wp2_with (first | ((with_reducible refine gate_callee (f := 72) rfl ?_); refine goesLA (some 4) rfl Try.func72 #[.pointer (some ⟨g, 0, none⟩), .int .i64 6] ?_; (with_reducible refine (spec_l4Cur_pick.calls g s0_0 s0_1 s0_2 6 t515 t516 t517 w0 _ ?side1 ?side2 A2.out).mono ?_); (case side1 => exact qi HI0); (case side2 => exact qz HB); rintro e w5 ⟨rfl, hi, hb, hk⟩; refine ⟨_, rfl, ?_⟩; replace HK := Aside0.mk (KeepBut.trans (qk HK) hk (.inl rfl)); replace HB := Aside0.mk (hb); replace HI0 := Aside0.mk (hi); clear hb hk hi) | ((with_reducible refine gate_callee (f := 72) rfl ?_); refine goesLA (some 8) rfl Try.func72 #[.pointer (some ⟨g, 0, none⟩), .int .i64 3] ?_; (with_reducible refine (spec_l4Cur_pick.calls g s0_0 t516 t517 3 t518 t519 t520 w0 _ ?side1 ?side2 A4.out).mono ?_); (case side1 => exact qi HI0); (case side2 => exact qz HB); rintro e w6 ⟨rfl, hi, hb, hk⟩; refine ⟨_, rfl, ?_⟩; replace HK := Aside0.mk (KeepBut.trans (qk HK) hk (.inl rfl)); replace HB := Aside0.mk (hb); replace HI0 := Aside0.mk (hi); clear hb hk hi))
  go_ret
  exact ⟨by first | rfl | (simp [errW_none, errW_some] <;> rfl) | (simp [*, errW_none, errW_some] <;> rfl), (qi HI0), (qz HB), (qk HK)⟩
 rw [if_neg c3] at H
 have c3b0 : (t515 == 0) = false := beq_eq_false_iff_ne.mpr c3
 have c3b1 : (t515 != 0) = true := bne_iff_ne.mpr c3
 by_cases c7 : t515 = 1
 ·rw [if_pos c7] at H
  have c7b0 : (t515 == 1) = true := beq_iff_eq.mpr c7
  have c7b1 : (t515 != 1) = false := bne_eq_false_iff_eq.mpr c7
  clear c7
  replace H := Option.bind_eq_some_iff.mp H
  obtain ⟨⟨t521, t522, t523⟩, A80, H⟩ := H
  replace H : (some (wrap64 ((-9223372036854775808) + t521), t522, t523)) = some (r1, r2, r3) := H
  have A8 := Aside0.mk A80
  clear A80
  simp only [Option.some.injEq, Prod.mk.injEq] at H
  obtain ⟨rfl, rfl, rfl⟩ := H
  go_enter Try.func73, Try.ntmps73
  go_wp2_with (first | ((with_reducible refine gate_callee (f := 72) rfl ?_); refine goesLA (some 4) rfl Try.func72 #[.pointer (some ⟨g, 0, none⟩), .int .i64 6] ?_; (with_reducible refine (spec_l4Cur_pick.calls g s0_0 s0_1 s0_2 6 t515 t516 t517 w0 _ ?side1 ?side2 A2.out).mono ?_); (case side1 => exact qi HI0); (case side2 => exact qz HB); rintro e w9 ⟨rfl, hi, hb, hk⟩; refine ⟨_, rfl, ?_⟩; replace HK := Aside0.mk (KeepBut.trans (qk HK) hk (.inl rfl)); replace HB := Aside0.mk (hb); replace HI0 := Aside0.mk (hi); clear hb hk hi) | ((with_reducible refine gate_callee (f := 72) rfl ?_); refine goesLA (some 13) rfl Try.func72 #[.pointer (some ⟨g, 0, none⟩), .int .i64 3] ?_; (with_reducible refine (spec_l4Cur_pick.calls g s0_0 t516 t517 3 t521 t522 t523 w0 _ ?side1 ?side2 A8.out).mono ?_); (case side1 => exact qi HI0); (case side2 => exact qz HB); rintro e w10 ⟨rfl, hi, hb, hk⟩; refine ⟨_, rfl, ?_⟩; replace HK := Aside0.mk (KeepBut.trans (qk HK) hk (.inl rfl)); replace HB := Aside0.mk (hb); replace HI0 := Aside0.mk (hi); clear hb hk hi))
  go_ret
  exact ⟨by first | rfl | (simp [errW_none, errW_some] <;> rfl) | (simp [*, errW_none, errW_some] <;> rfl), (qi HI0), (qz HB), (qk HK)⟩
 rw [if_neg c7] at H
 have c7b0 : (t515 == 1) = false := beq_eq_false_iff_ne.mpr c7
 have c7b1 : (t515 != 1) = true := bne_iff_ne.mpr c7
 by_cases c11 : t515 = 2
 ·rw [if_pos c11] at H
  have c11b0 : (t515 == 2) = true := beq_iff_eq.mpr c11
  have c11b1 : (t515 != 2) = false := bne_eq_false_iff_eq.mpr c11
  clear c11
  replace H := Option.bind_eq_some_iff.mp H
  obtain ⟨⟨t524, t525, t526⟩, A120, H⟩ := H
  replace H : (some (wrap64 (t524 - 35000), t525, t526)) = some (r1, r2, r3) := H
  have A12 := Aside0.mk A120
  clear A120
  simp only [Option.some.injEq, Prod.mk.injEq] at H
  obtain ⟨rfl, rfl, rfl⟩ := H
  go_enter Try.func73, Try.ntmps73
  go_wp2_with (first | ((with_reducible refine gate_callee (f := 72) rfl ?_); refine goesLA (some 4) rfl Try.func72 #[.pointer (some ⟨g, 0, none⟩), .int .i64 6] ?_; (with_reducible refine (spec_l4Cur_pick.calls g s0_0 s0_1 s0_2 6 t515 t516 t517 w0 _ ?side1 ?side2 A2.out).mono ?_); (case side1 => exact qi HI0); (case side2 => exact qz HB); rintro e w13 ⟨rfl, hi, hb, hk⟩; refine ⟨_, rfl, ?_⟩; replace HK := Aside0.mk (KeepBut.trans (qk HK) hk (.inl rfl)); replace HB := Aside0.mk (hb); replace HI0 := Aside0.mk (hi); clear hb hk hi) | ((with_reducible refine gate_callee (f := 72) rfl ?_); refine goesLA (some 18) rfl Try.func72 #[.pointer (some ⟨g, 0, none⟩), .int .i64 70000] ?_; (with_reducible refine (spec_l4Cur_pick.calls g s0_0 t516 t517 70000 t524 t525 t526 w0 _ ?side1 ?side2 A12.out).mono ?_); (case side1 => exact qi HI0); (case side2 => exact qz HB); rintro e w14 ⟨rfl, hi, hb, hk⟩; refine ⟨_, rfl, ?_⟩; replace HK := Aside0.mk (KeepBut.trans (qk HK) hk (.inl rfl)); replace HB := Aside0.mk (hb); replace HI0 := Aside0.mk (hi); clear hb hk hi))
  go_ret
  exact ⟨by first | rfl | (simp [errW_none, errW_some] <;> rfl) | (simp [*, errW_none, errW_some] <;> rfl), (qi HI0), (qz HB), (qk HK)⟩
 rw [if_neg c11] at H
 have c11b0 : (t515 == 2) = false := beq_eq_false_iff_ne.mpr c11
 have c11b1 : (t515 != 2) = true := bne_iff_ne.mpr c11
 replace H := Option.bind_eq_some_iff.mp H
 obtain ⟨⟨t527, t528, t529⟩, A150, H⟩ := H
 replace H : (some (wrap64 (t527 - 3), t528, t529)) = some (r1, r2, r3) := H
 have A15 := Aside0.mk A150
 clear A150
 simp only [Option.some.injEq, Prod.mk.injEq] at H
 obtain ⟨rfl, rfl, rfl⟩ := H
 go_enter Try.func73, Try.ntmps73
 go_wp2_with (first | ((with_reducible refine gate_callee (f := 72) rfl ?_); refine goesLA (some 4) rfl Try.func72 #[.pointer (some ⟨g, 0, none⟩), .int .i64 6] ?_; (with_reducible refine (spec_l4Cur_pick.calls g s0_0 s0_1 s0_2 6 t515 t516 t517 w0 _ ?side1 ?side2 A2.out).mono ?_); (case side1 => exact qi HI0); (case side2 => exact qz HB); rintro e w16 ⟨rfl, hi, hb, hk⟩; refine ⟨_, rfl, ?_⟩; replace HK := Aside0.mk (KeepBut.trans (qk HK) hk (.inl rfl)); replace HB := Aside0.mk (hb); replace HI0 := Aside0.mk (hi); clear hb hk hi) | ((with_reducible refine gate_callee (f := 72) rfl ?_); refine goesLA (some 21) rfl Try.func72 #[.pointer (some ⟨g, 0, none⟩), .int .i64 12] ?_; (with_reducible refine (spec_l4Cur_pick.calls g s0_0 t516 t517 12 t527 t528 t529 w0 _ ?side1 ?side2 A15.out).mono ?_); (case side1 => exact qi HI0); (case side2 => exact qz HB); rintro e w17 ⟨rfl, hi, hb, hk⟩; refine ⟨_, rfl, ?_⟩; replace HK := Aside0.mk (KeepBut.trans (qk HK) hk (.inl rfl)); replace HB := Aside0.mk (hb); replace HI0 := Aside0.mk (hi); clear hb hk hi))
 go_ret
 exact ⟨by first | rfl | (simp [errW_none, errW_some] <;> rfl) | (simp [*, errW_none, errW_some] <;> rfl), (qi HI0), (qz HB), (qk HK)⟩
end Go.Proofs.Ytndffnacbfdnoaa.PAll
