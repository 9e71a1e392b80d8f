-- Lines of PAllx15 that this claim uses.
import Derived.Test.YtndffnacbfdnoaaCOSqd
import Derived.Test.YtndffnacbfdnoaaCOSqc
import Derived.Test.YtndffnacbfdnoaaCOSq
import Derived.Test.YtndffnacbfdnoaaCOPAllx0
namespace Go.Proofs.Ytndffnacbfdnoaa.PAll
open Go.RowKit Go.Proofs.YtndffnacbfdnoaaW.PrintWords Go.Proofs.YtndffnacbfdnoaaW.PrintLast Go.Proofs.YtndffnacbfdnoaaW.PrintMore
attribute [local go_sem] max2_int min2_int max_two min_two max_three min_three max_four min_four   -- for this text's walks alone
set_option linter.unusedVariables false
set_option linter.unusedSimpArgs false
def IsS108 (w0 W : World) (g : Nat) (f0 : List Int) (f1 : Int) (f2 : Int) : Prop := ∃ A0 c0, W.heap[g]? = some (.cells #[.slice A0 f0.length c0, .int .i64 f1, .int .u64 f2] 108 (0, 0)) ∧ w0.heap.size ≤ g ∧ Kd.C (Kd.int .u8) w0 A0 f0.length f0
theorem IsS108.grown {w0 W : World} {g : Nat} {f0 : List Int} {f1 : Int} {f2 : Int} {W1 : World} {row : Option Nat} (h : IsS108 w0 W g f0 f1 f2) (hw : W.grownBy W1 row) (hne : some g ≠ row) : IsS108 w0 W1 g f0 f1 f2 := by
 obtain ⟨A0, c0, hb, hg, hr0⟩ := h
 exact ⟨A0, c0, blk_grown hb hw hne, hg, hr0⟩
theorem IsS108.kept {w0 W : World} {g : Nat} {f0 : List Int} {f1 : Int} {f2 : Int} {W1 : World} {S : Nat → Prop} (h : IsS108 w0 W g f0 f1 f2) (hk : Kept W W1 S) (hne : ¬ S g) : IsS108 w0 W1 g f0 f1 f2 := by
 obtain ⟨A0, c0, hb, hg, hr0⟩ := h
 exact ⟨A0, c0, blk_kept hb hk hne, hg, hr0⟩
theorem IsS108.below {w0 W : World} {g : Nat} {f0 : List Int} {f1 : Int} {f2 : Int} {W1 : World} (h : IsS108 w0 W g f0 f1 f2) (hw : Below W.heap.size W W1) : IsS108 w0 W1 g f0 f1 f2 := h.grown (grown_of_below hw none) (by simp)
theorem IsS108.alloc {w0 W : World} {g : Nat} {f0 : List Int} {f1 : Int} {f2 : Int} (h : IsS108 w0 W g f0 f1 f2) (o : Obj) : IsS108 w0 (W.alloc o) g f0 f1 f2 := h.below (below_alloc (Below.refl _ _) o)
theorem IsS108.drewN {w0 W : World} {g : Nat} {f0 : List Int} {f1 : Int} {f2 : Int} (h : IsS108 w0 W g f0 f1 f2) (m : Nat) : IsS108 w0 (W.drewN m) g f0 f1 f2 := h
theorem IsS108.drew {w0 W : World} {g : Nat} {f0 : List Int} {f1 : Int} {f2 : Int} (h : IsS108 w0 W g f0 f1 f2) : IsS108 w0 W.drew g f0 f1 f2 := h
theorem IsS108.at_ {w0 W : World} {g : Nat} {f0 : List Int} {f1 : Int} {f2 : Int} {w' : World} {m : Nat} (hq : W.drewN m = w') (h : IsS108 w0 W g f0 f1 f2) : IsS108 w0 w' g f0 f1 f2 := by subst hq; exact IsS108.drewN h m
theorem IsS108.apart {w0 W : World} {g : Nat} {f0 : List Int} {f1 : Int} {f2 : Int} {α : Type} {d : Kd α} {e : Nat} {base : Nat} {ok : Nat → Prop} {v : Value} {xs : List α} (h : IsS108 w0 W g f0 f1 f2) (ho : d.R e W base ok v xs) (ht : ∀ q, q ∈ e :: d.E → q ≠ 108) : d.R e W base (fun k => ok k ∧ k ≠ g) v xs := by
 obtain ⟨A0, c0, hb, hg, hr0⟩ := h
 exact Kd.R_types ho hb ht
theorem IsS108.own_ne {w0 W : World} {g : Nat} {f0 : List Int} {f1 : Int} {f2 : Int} {α : Type} {d : Kd α} {e : Nat} {base : Nat} {ok : Nat → Prop} {v : Value} {xs : List α} (h : IsS108 w0 W g f0 f1 f2) (ho : d.R e W base ok v xs) (ht : e ≠ 108) : some g ≠ v.ownBlock := by
 obtain ⟨A0, c0, hb, hg, hr0⟩ := h
 exact Kd.R_ne ho hb ht
theorem IsS108.apartS {w0 W : World} {g : Nat} {f0 : List Int} {f1 : Int} {f2 : Int} {α : Type} {d : Kd α} {e : Nat} {base : Nat} {ok : Nat → Prop} {v : Value} {xs : List α} (h : IsS108 w0 W g f0 f1 f2) (ho : d.S e W base ok v xs) (ht : ∀ q, q ∈ e :: d.E → q ≠ 108) : d.S e W base (fun k => ok k ∧ k ≠ g) v xs := by
 obtain ⟨A0, c0, hb, hg, hr0⟩ := h
 exact Kd.S_types ho hb ht
theorem IsS108.own_neS {w0 W : World} {g : Nat} {f0 : List Int} {f1 : Int} {f2 : Int} {α : Type} {d : Kd α} {e : Nat} {base : Nat} {ok : Nat → Prop} {v : Value} {xs : List α} (h : IsS108 w0 W g f0 f1 f2) (ho : d.S e W base ok v xs) (ht : e ≠ 108) : some g ≠ v.ownBlock := by
 obtain ⟨A0, c0, hb, hg, hr0⟩ := h
 exact Kd.S_ne ho hb ht
theorem IsS108.lt {w0 W : World} {g : Nat} {f0 : List Int} {f1 : Int} {f2 : Int} (h : IsS108 w0 W g f0 f1 f2) : g < W.heap.size := by
 obtain ⟨A0, c0, hb, hg, hr0⟩ := h
 exact blk_lt hb
theorem IsS108.ge {w0 W : World} {g : Nat} {f0 : List Int} {f1 : Int} {f2 : Int} (h : IsS108 w0 W g f0 f1 f2) : w0.heap.size ≤ g := by
 obtain ⟨A0, c0, hb, hg, hr0⟩ := h
 exact hg
theorem IsS108.far {w0 W : World} {g : Nat} {f0 : List Int} {f1 : Int} {f2 : Int} {p : Addr} (h : IsS108 w0 W g f0 f1 f2) (hne : g ≠ p.block) (u : Value) : IsS108 w0 (W.setCell p u) g f0 f1 f2 := by
 obtain ⟨A0, c0, hb, hg, hr0⟩ := h
 exact ⟨A0, c0, blk_far hb hne u, hg, hr0⟩
theorem cellS108_0 {W : World} {g : Nat} {A0 : Option Addr} {c0 : Nat} {f0 : List Int} {f1 : Int} {f2 : Int} (h : W.heap[g]? = some (.cells #[.slice A0 f0.length c0, .int .i64 f1, .int .u64 f2] 108 (0, 0))) : W.cell? ⟨g, 0, none⟩ = some (.slice A0 f0.length c0) := (blk_cell h 0).trans rfl
theorem cellS108_1 {W : World} {g : Nat} {A0 : Option Addr} {c0 : Nat} {f0 : List Int} {f1 : Int} {f2 : Int} (h : W.heap[g]? = some (.cells #[.slice A0 f0.length c0, .int .i64 f1, .int .u64 f2] 108 (0, 0))) : W.cell? ⟨g, 1, none⟩ = some (.int .i64 f1) := (blk_cell h 1).trans rfl
theorem IsS108.set_1 {w0 W : World} {g : Nat} {f0 : List Int} {f1 : Int} {f2 : Int} (h : IsS108 w0 W g f0 f1 f2) (x : Int) : IsS108 w0 (W.setCell ⟨g, 1, none⟩ (.int .i64 x)) g f0 x f2 := by
 obtain ⟨A0, c0, hb, hg, hr0⟩ := h
 exact ⟨A0, c0, by simpa using blk_set hb 1 (.int .i64 x), hg, hr0⟩
theorem cellS108_2 {W : World} {g : Nat} {A0 : Option Addr} {c0 : Nat} {f0 : List Int} {f1 : Int} {f2 : Int} (h : W.heap[g]? = some (.cells #[.slice A0 f0.length c0, .int .i64 f1, .int .u64 f2] 108 (0, 0))) : W.cell? ⟨g, 2, none⟩ = some (.int .u64 f2) := (blk_cell h 2).trans rfl
theorem IsS108.set_2 {w0 W : World} {g : Nat} {f0 : List Int} {f1 : Int} {f2 : Int} (h : IsS108 w0 W g f0 f1 f2) (x : Int) : IsS108 w0 (W.setCell ⟨g, 2, none⟩ (.int .u64 x)) g f0 f1 x := by
 obtain ⟨A0, c0, hb, hg, hr0⟩ := h
 exact ⟨A0, c0, by simpa using blk_set hb 2 (.int .u64 x), hg, hr0⟩
theorem qi {w0 w1 w2 : World} {g : Nat} {f0 : List Int} {f1 f2 : Int} (h : Aside0 (IsS108 w0 w1 g f0 f1 f2)) {f1' f2' : Int} (q : IsS108 w0 w1 g f0 f1 f2 → IsS108 w0 w2 g f0 f1' f2' := by
    intro h_; repeat (first | (with_reducible first | exact h_ | apply IsS108.alloc | apply IsS108.drewN | apply IsS108.drew | apply IsS108.set_1 | apply IsS108.set_2 | refine IsS108.far ?_ (Aside0.out (by assumption)) _) | exact h_)) : IsS108 w0 w2 g f0 f1' f2' := q h.out
theorem qz {w W W2 : World} (h : Aside0 (Below w.heap.size w W)) (q : Below w.heap.size w W → Below w.heap.size w W2 := by
    intro h_; repeat (first | (with_reducible first | exact h_ | apply below_alloc | apply pw_below_drewN | apply below_drew1 | refine below_set ?_ (IsS108.ge (Aside0.out (by assumption))) | refine below_set ?_ (Aside0.out (by assumption))) | exact h_)) : Below w.heap.size w W2 := q h.out
def spec_l4Cur_next.f (s0_0 : List Int) (s0_1 : Int) (s0_2 : Int) : Option (Int × Int × Int) := if s0_1 < (s0_0.length : Int) then (if 0 ≤ s0_1 then (some (wrap64 (rd s0_0 s0_1), wrap64 (s0_1 + 1), IntKind.u64.wrap ((IntKind.u64.wrap ((IntKind.u64.wrap (s0_2 * 6364136223846793005)) + (IntKind.u64.wrap (rd s0_0 s0_1)))) + 1442695040888963407))) else (none)) else (some (wrap64 (Go.bits .and .u64 ((IntKind.u64.wrap ((IntKind.u64.wrap (s0_2 * 6364136223846793005)) + 1442695040888963407)) / 1099511627776) 255), wrap64 (s0_1 + 1), IntKind.u64.wrap ((IntKind.u64.wrap (s0_2 * 6364136223846793005)) + 1442695040888963407)))
set_option maxHeartbeats 8000000 in
set_option maxRecDepth 100000 in
theorem spec_l4Cur_next.calls (g : Nat) (s0_0 : List Int) (s0_1 : Int) (s0_2 : Int) (r1 : Int) (r2 : Int) (r3 : Int) (w0 w : World) (hI : IsS108 w0 w g s0_0 s0_1 s0_2) (hB : Below w0.heap.size w0 w) (h : spec_l4Cur_next.f s0_0 s0_1 s0_2 = some (r1, r2, r3)) :
  Calls Try.prog 98 #[.pointer (some ⟨g, 0, none⟩)] w fun e w' => e = .returned (.int .i64 r1) ∧ IsS108 w0 w' g s0_0 r2 r3 ∧ Below w0.heap.size w0 w' ∧ KeepBut w w' g none := by
 have HI0 := Aside0.mk hI
 have HK := Aside0.mk (KeepBut.refl w g none)
 have HL := Aside0.mk hB.size
 clear hI
 have HW0 := Aside0.mk hB.size
 have HB := Aside0.mk hB
 clear hB
 have H : (if s0_1 < (s0_0.length : Int) then (if 0 ≤ s0_1 then (some (wrap64 (rd s0_0 s0_1), wrap64 (s0_1 + 1), IntKind.u64.wrap ((IntKind.u64.wrap ((IntKind.u64.wrap (s0_2 * 6364136223846793005)) + (IntKind.u64.wrap (rd s0_0 s0_1)))) + 1442695040888963407))) else (none)) else (some (wrap64 (Go.bits .and .u64 ((IntKind.u64.wrap ((IntKind.u64.wrap (s0_2 * 6364136223846793005)) + 1442695040888963407)) / 1099511627776) 255), wrap64 (s0_1 + 1), IntKind.u64.wrap ((IntKind.u64.wrap (s0_2 * 6364136223846793005)) + 1442695040888963407)))) = some (r1, r2, r3) := h
 clear h
 by_cases c2 : s0_1 < (s0_0.length : Int)
 ·rw [if_pos c2] at H
  have c2b0 : decide (s0_1 < (s0_0.length : Int)) = true := decide_eq_true c2
  clear c2
  by_cases c3 : 0 ≤ s0_1
  ·rw [if_pos c3] at H
   have c3b0 : decide (0 ≤ s0_1) = true := decide_eq_true c3
   clear c3
   simp only [Option.some.injEq, Prod.mk.injEq] at H
   obtain ⟨rfl, rfl, rfl⟩ := H
   obtain ⟨ASz4_0, cSz4_0, HGz4, hgz4, HSz4_0⟩ := HI0.out
   have hcz4_0 := cellS108_0 HGz4
   have hcz4_1 := cellS108_1 HGz4
   have hcz4_2 := cellS108_2 HGz4
   have hfz4_1 := blk_frozen HGz4 1
   have hfz4_2 := blk_frozen HGz4 2
   clear HGz4 hgz4
   have p443 : 0 ≤ (s0_1 : Int) := of_decide_eq_true (by first | (with_reducible assumption) | assumption)
   have q443 : s0_1 < (s0_0.length : Int) := of_decide_eq_true (by first | (with_reducible assumption) | assumption)
   obtain ⟨ad443, e443, hx443_0⟩ := Kd.at_int HSz4_0 s0_1 p443 q443
   cases e443
   replace hx443_0 := pw_cell_below HB.out hx443_0
   replace p443 := eq_true p443
   replace q443 := eq_true q443
   go_enter Try.func98, Try.ntmps98
   go_wp2
   repeat (go_quiet (fail); try go_wp2)
   go_ret
   exact ⟨by first | rfl | (simp [errW_none, errW_some] <;> rfl) | (simp [*, errW_none, errW_some] <;> rfl), (qi HI0), (qz HB), (qk HK)⟩
  rw [if_neg c3] at H
  exact absurd H (by simp)
 rw [if_neg c2] at H
 have c2b0 : decide (s0_1 < (s0_0.length : Int)) = false := decide_eq_false c2
 clear c2
 simp only [Option.some.injEq, Prod.mk.injEq] at H
 obtain ⟨rfl, rfl, rfl⟩ := H
 obtain ⟨ASz5_0, cSz5_0, HGz5, hgz5, HSz5_0⟩ := HI0.out
 have hcz5_0 := cellS108_0 HGz5
 have hcz5_1 := cellS108_1 HGz5
 have hcz5_2 := cellS108_2 HGz5
 have hfz5_1 := blk_frozen HGz5 1
 have hfz5_2 := blk_frozen HGz5 2
 clear HGz5 hgz5
 go_enter Try.func98, Try.ntmps98
 go_wp2
 repeat (go_quiet (fail); try go_wp2)
 go_ret
 exact ⟨by first | rfl | (simp [errW_none, errW_some] <;> rfl) | (simp [*, errW_none, errW_some] <;> rfl), (qi HI0), (qz HB), (qk HK)⟩
def spec_l4Cur_pick.f (s0_0 : List Int) (s0_1 : Int) (s0_2 : Int) (a1 : Int) : Option (Int × Int × Int) := if a1 ≤ 1 then (some (0, s0_1, s0_2)) else ((spec_l4Cur_next.f s0_0 s0_1 s0_2).bind fun bt444 => (if a1 > 200 then ((spec_l4Cur_next.f s0_0 bt444.2.1 bt444.2.2).bind fun bt447 => (if a1 = 0 then (none) else (some (Int.tmod (wrap64 ((wrap64 (bt444.1 * 256)) + bt447.1)) a1, bt447.2.1, bt447.2.2)))) else (if a1 = 0 then (none) else (some (Int.tmod bt444.1 a1, bt444.2.1, bt444.2.2)))))
set_option maxHeartbeats 8000000 in
set_option maxRecDepth 100000 in
theorem spec_l4Cur_pick.calls (g : Nat) (s0_0 : List Int) (s0_1 : Int) (s0_2 : Int) (a1 : Int) (r1 : Int) (r2 : Int) (r3 : Int) (w0 w : World) (hI : IsS108 w0 w g s0_0 s0_1 s0_2) (hB : Below w0.heap.size w0 w) (h : spec_l4Cur_pick.f s0_0 s0_1 s0_2 a1 = some (r1, r2, r3)) :
  Calls Try.prog 72 #[.pointer (some ⟨g, 0, none⟩), .int .i64 a1] w fun e w' => e = .returned (.int .i64 r1) ∧ IsS108 w0 w' g s0_0 r2 r3 ∧ Below w0.heap.size w0 w' ∧ KeepBut w w' g none := by
 have HI0 := Aside0.mk hI
 have HK := Aside0.mk (KeepBut.refl w g none)
 have HL := Aside0.mk hB.size
 clear hI
 have HW0 := Aside0.mk hB.size
 have HB := Aside0.mk hB
 clear hB
 have H : (if a1 ≤ 1 then (some (0, s0_1, s0_2)) else ((spec_l4Cur_next.f s0_0 s0_1 s0_2).bind fun bt444 => (if a1 > 200 then ((spec_l4Cur_next.f s0_0 bt444.2.1 bt444.2.2).bind fun bt447 => (if a1 = 0 then (none) else (some (Int.tmod (wrap64 ((wrap64 (bt444.1 * 256)) + bt447.1)) a1, bt447.2.1, bt447.2.2)))) else (if a1 = 0 then (none) else (some (Int.tmod bt444.1 a1, bt444.2.1, bt444.2.2)))))) = some (r1, r2, r3) := h
 clear h
 by_cases c3 : a1 ≤ 1
 ·rw [if_pos c3] at H
  have c3b0 : decide (a1 ≤ 1) = true := decide_eq_true c3
  clear c3
  simp only [Option.some.injEq, Prod.mk.injEq] at H
  obtain ⟨rfl, rfl, rfl⟩ := H
  go_enter Try.func72, Try.ntmps72
  go_wp2
  go_ret
  exact ⟨by first | rfl | (simp [errW_none, errW_some] <;> rfl) | (simp [*, errW_none, errW_some] <;> rfl), (qi HI0), (qz HB), (qk HK)⟩
 rw [if_neg c3] at H
 have c3b0 : decide (a1 ≤ 1) = false := decide_eq_false c3
 clear c3
 replace H := Option.bind_eq_some_iff.mp H
 obtain ⟨⟨t444, t445, t446⟩, A40, H⟩ := H
 replace H : (if a1 > 200 then ((spec_l4Cur_next.f s0_0 t445 t446).bind fun bt447 => (if a1 = 0 then (none) else (some (Int.tmod (wrap64 ((wrap64 (t444 * 256)) + bt447.1)) a1, bt447.2.1, bt447.2.2)))) else (if a1 = 0 then (none) else (some (Int.tmod t444 a1, t445, t446)))) = some (r1, r2, r3) := H
 have A4 := Aside0.mk A40
 clear A40
 by_cases c5 : a1 > 200
 ·rw [if_pos c5] at H
  have c5b0 : decide (200 < a1) = true := decide_eq_true c5
  clear c5
  replace H := Option.bind_eq_some_iff.mp H
  obtain ⟨⟨t447, t448, t449⟩, A60, H⟩ := H
  replace H : (if a1 = 0 then (none) else (some (Int.tmod (wrap64 ((wrap64 (t444 * 256)) + t447)) a1, t448, t449))) = some (r1, r2, r3) := H
  have A6 := Aside0.mk A60
  clear A60
  by_cases c7 : a1 = 0
  ·rw [if_pos c7] at H
   exact absurd H (by simp)
  rw [if_neg c7] at H
  have c7b0 : (a1 == 0) = false := beq_eq_false_iff_ne.mpr c7
  have c7b1 : (a1 != 0) = true := bne_iff_ne.mpr c7
  simp only [Option.some.injEq, Prod.mk.injEq] at H
  obtain ⟨rfl, rfl, rfl⟩ := H
  go_enter Try.func72, Try.ntmps72
  go_wp2_with (first | ((with_reducible refine gate_callee (f := 98) rfl ?_); refine goesLA (some 9) rfl Try.func98 #[.pointer (some ⟨g, 0, none⟩)] ?_; (with_reducible refine (spec_l4Cur_next.calls g s0_0 s0_1 s0_2 t444 t445 t446 w0 _ ?side1 ?side2 A4.out).mono ?_); (case side1 => exact qi HI0); (case side2 => exact qz HB); rintro e w8 ⟨rfl, hi, hb, hk⟩; refine ⟨_, rfl, ?_⟩; replace HK := Aside0.mk (KeepBut.trans (qk HK) hk (.inl rfl)); replace HB := Aside0.mk (hb); replace HI0 := Aside0.mk (hi); clear hb hk hi) | ((with_reducible refine gate_callee (f := 98) rfl ?_); refine goesLA (some 15) rfl Try.func98 #[.pointer (some ⟨g, 0, none⟩)] ?_; (with_reducible refine (spec_l4Cur_next.calls g s0_0 t445 t446 t447 t448 t449 w0 _ ?side1 ?side2 A6.out).mono ?_); (case side1 => exact qi HI0); (case side2 => exact qz HB); rintro e w9 ⟨rfl, hi, hb, hk⟩; refine ⟨_, rfl, ?_⟩; replace HK := Aside0.mk (KeepBut.trans (qk HK) hk (.inl rfl)); replace HB := Aside0.mk (hb); replace HI0 := Aside0.mk (hi); clear hb hk hi))
  go_ret
  exact ⟨by first | rfl | (simp [errW_none, errW_some] <;> rfl) | (simp [*, errW_none, errW_some] <;> rfl), (qi HI0), (qz HB), (qk HK)⟩
 rw [if_neg c5] at H
 have c5b0 : decide (200 < a1) = false := decide_eq_false c5
 clear c5
 by_cases c10 : a1 = 0
 ·rw [if_pos c10] at H
  exact absurd H (by simp)
 rw [if_neg c10] at H
 have c10b0 : (a1 == 0) = false := beq_eq_false_iff_ne.mpr c10
 have c10b1 : (a1 != 0) = true := bne_iff_ne.mpr c10
 simp only [Option.some.injEq, Prod.mk.injEq] at H
 obtain ⟨rfl, rfl, rfl⟩ := H
 go_enter Try.func72, Try.ntmps72
 go_wp2_with (first | ((with_reducible refine gate_callee (f := 98) rfl ?_); refine goesLA (some 9) rfl Try.func98 #[.pointer (some ⟨g, 0, none⟩)] ?_; (with_reducible refine (spec_l4Cur_next.calls g s0_0 s0_1 s0_2 t444 t445 t446 w0 _ ?side1 ?side2 A4.out).mono ?_); (case side1 => exact qi HI0); (case side2 => exact qz HB); rintro e w11 ⟨rfl, hi, hb, hk⟩; refine ⟨_, rfl, ?_⟩; replace HK := Aside0.mk (KeepBut.trans (qk HK) hk (.inl rfl)); replace HB := Aside0.mk (hb); replace HI0 := Aside0.mk (hi); clear hb hk hi))
 go_ret
 exact ⟨by first | rfl | (simp [errW_none, errW_some] <;> rfl) | (simp [*, errW_none, errW_some] <;> rfl), (qi HI0), (qz HB), (qk HK)⟩
def spec_l4Cur_rules.f (s0_0 : List Int) (s0_1 : Int) (s0_2 : Int) : Option (Int × Int × Int × Int × Int) := (spec_l4Cur_pick.f s0_0 s0_1 s0_2 6).bind fun bt451 => ((spec_l4Cur_pick.f s0_0 bt451.2.1 bt451.2.2 20).bind fun bt454 => ((spec_l4Cur_pick.f s0_0 bt454.2.1 bt454.2.2 (wrap64 ((wrap64 (1 + bt454.1)) + 1))).bind fun bt458 => (some (wrap64 (1 + bt451.1), wrap64 (1 + bt454.1), bt458.1, bt458.2.1, bt458.2.2))))
set_option maxHeartbeats 8000000 in
set_option maxRecDepth 100000 in
theorem spec_l4Cur_rules.calls (g : Nat) (s0_0 : List Int) (s0_1 : Int) (s0_2 : Int) (r1 : Int) (r2 : Int) (r3 : Int) (r4 : Int) (r5 : Int) (w0 w : World) (hI : IsS108 w0 w g s0_0 s0_1 s0_2) (hB : Below w0.heap.size w0 w) (h : spec_l4Cur_rules.f s0_0 s0_1 s0_2 = some (r1, r2, r3, r4, r5)) :
  Calls Try.prog 91 #[.pointer (some ⟨g, 0, none⟩)] w fun e w' => e = .returned (.agg #[.int .i64 r1, .int .i64 r2, .int .i64 r3]) ∧ IsS108 w0 w' g s0_0 r4 r5 ∧ Below w0.heap.size w0 w' ∧ KeepBut w w' g none := by
 have hu34 := Try.underlying34
 have HI0 := Aside0.mk hI
 have HK := Aside0.mk (KeepBut.refl w g none)
 have HL := Aside0.mk hB.size
 clear hI
 have HW0 := Aside0.mk hB.size
 have HB := Aside0.mk hB
 clear hB
 have H : ((spec_l4Cur_pick.f s0_0 s0_1 s0_2 6).bind fun bt451 => ((spec_l4Cur_pick.f s0_0 bt451.2.1 bt451.2.2 20).bind fun bt454 => ((spec_l4Cur_pick.f s0_0 bt454.2.1 bt454.2.2 (wrap64 ((wrap64 (1 + bt454.1)) + 1))).bind fun bt458 => (some (wrap64 (1 + bt451.1), wrap64 (1 + bt454.1), bt458.1, bt458.2.1, bt458.2.2))))) = some (r1, r2, r3, r4, r5) := h
 clear h
 replace H := Option.bind_eq_some_iff.mp H
 obtain ⟨⟨t451, t452, t453⟩, A20, H⟩ := H
 replace H : ((spec_l4Cur_pick.f s0_0 t452 t453 20).bind fun bt454 => ((spec_l4Cur_pick.f s0_0 bt454.2.1 bt454.2.2 (wrap64 ((wrap64 (1 + bt454.1)) + 1))).bind fun bt458 => (some (wrap64 (1 + t451), wrap64 (1 + bt454.1), bt458.1, bt458.2.1, bt458.2.2)))) = some (r1, r2, r3, r4, r5) := H
 have A2 := Aside0.mk A20
 clear A20
 replace H := Option.bind_eq_some_iff.mp H
 obtain ⟨⟨t454, t455, t456⟩, A30, H⟩ := H
 replace H : ((spec_l4Cur_pick.f s0_0 t455 t456 (wrap64 ((wrap64 (1 + t454)) + 1))).bind fun bt458 => (some (wrap64 (1 + t451), wrap64 (1 + t454), bt458.1, bt458.2.1, bt458.2.2))) = some (r1, r2, r3, r4, r5) := H
 have A3 := Aside0.mk A30
 clear A30
 replace H := Option.bind_eq_some_iff.mp H
 obtain ⟨⟨t458, t459, t460⟩, A40, H⟩ := H
 replace H : (some (wrap64 (1 + t451), wrap64 (1 + t454), t458, t459, t460)) = some (r1, r2, r3, r4, r5) := H
 have A4 := Aside0.mk A40
 clear A40
 simp only [Option.some.injEq, Prod.mk.injEq] at H
 obtain ⟨rfl, rfl, rfl, rfl, rfl⟩ := H
 go_enter Try.func91, Try.ntmps91
 go_wp2_with (first | ((with_reducible refine gate_dst (N := 2) rfl ?_); refine boxA #[.int .i64 0, .int .i64 0, .int .i64 0] 34 ?_; intro gb450 hg w5 hbox hb; replace HB := Aside0.mk (below_step (qz HB) hb); have BK450 := Aside0.mk (hbox); have GW450 := Aside0.mk ((by rw [hg]; exact (keep_size (w := w) (g := g) (row := none) (qk HK)) : w.heap.size ≤ gb450)); have GE450 := Aside0.mk ((Nat.le_trans HW0.out (by rw [hg]; exact (keep_size (w := w) (g := g) (row := none) (qk HK)) : w.heap.size ≤ gb450) : w0.heap.size ≤ gb450)); replace HK := Aside0.mk (KeepBut.trans (qk HK) (KeepBut.of_below hb g none) (.inl rfl)); have NB0_450 := Aside0.mk ((by rw [hg]; exact Nat.ne_of_lt (IsS108.lt (show IsS108 w0 _ g s0_0 s0_1 s0_2 from qi HI0)) : g ≠ gb450)); have NB450_0 := Aside0.mk ((by rw [hg]; exact Nat.ne_of_gt (IsS108.lt (show IsS108 w0 _ g s0_0 s0_1 s0_2 from qi HI0)) : gb450 ≠ g)); replace HI0 := Aside0.mk (IsS108.below (qi HI0) hb); clear hb hbox hg) | ((with_reducible refine gate_callee (f := 72) rfl ?_); refine goesLA (some 5) rfl Try.func72 #[.pointer (some ⟨g, 0, none⟩), .int .i64 6] ?_; (with_reducible refine (spec_l4Cur_pick.calls g s0_0 s0_1 s0_2 6 t451 t452 t453 w0 _ ?side1 ?side2 A2.out).mono ?_); (case side1 => exact qi HI0); (case side2 => exact qz HB); rintro e w6 ⟨rfl, hi, hb, hk⟩; refine ⟨_, rfl, ?_⟩; replace BK450 := Aside0.mk (KeepBut.blk hk (g' := gb450) (o := .cells #[.int .i64 0, .int .i64 0, .int .i64 0] 34 (0, 0)) (qb BK450) NB450_0.out (by simp)); replace HK := Aside0.mk (KeepBut.trans (qk HK) hk (.inl rfl)); replace HB := Aside0.mk (hb); replace HI0 := Aside0.mk (hi); clear hb hk hi) | ((with_reducible refine gate_callee (f := 72) rfl ?_); refine goesLA (some 8) rfl Try.func72 #[.pointer (some ⟨g, 0, none⟩), .int .i64 20] ?_; (with_reducible refine (spec_l4Cur_pick.calls g s0_0 t452 t453 20 t454 t455 t456 w0 _ ?side1 ?side2 A3.out).mono ?_); (case side1 => exact qi HI0); (case side2 => exact qz HB); rintro e w7 ⟨rfl, hi, hb, hk⟩; refine ⟨_, rfl, ?_⟩; replace BK450 := Aside0.mk (KeepBut.blk hk (g' := gb450) (o := .cells #[.int .i64 0, .int .i64 0, .int .i64 0] 34 (0, 0)) (qb BK450) NB450_0.out (by simp)); replace HK := Aside0.mk (KeepBut.trans (qk HK) hk (.inl rfl)); replace HB := Aside0.mk (hb); replace HI0 := Aside0.mk (hi); clear hb hk hi) | ((with_reducible refine gate_dst (N := 3) rfl ?_); refine boxA #[.int .i64 0, .int .i64 0, .int .i64 0] 34 ?_; intro gb457 hg w8 hbox hb; replace HB := Aside0.mk (below_step (qz HB) hb); have BK457 := Aside0.mk (hbox); have GW457 := Aside0.mk ((by rw [hg]; exact (keep_size (w := w) (g := g) (row := none) (qk HK)) : w.heap.size ≤ gb457)); have GE457 := Aside0.mk ((Nat.le_trans HW0.out (by rw [hg]; exact (keep_size (w := w) (g := g) (row := none) (qk HK)) : w.heap.size ≤ gb457) : w0.heap.size ≤ gb457)); replace HK := Aside0.mk (KeepBut.trans (qk HK) (KeepBut.of_below hb g none) (.inl rfl)); have NB450_457 := nlt BK450 hg; have NB457_450 := ngt BK450 hg; replace BK450 := bkb BK450 hb; have NB0_457 := Aside0.mk ((by rw [hg]; exact Nat.ne_of_lt (IsS108.lt (show IsS108 w0 _ g s0_0 t455 t456 from qi HI0)) : g ≠ gb457)); have NB457_0 := Aside0.mk ((by rw [hg]; exact Nat.ne_of_gt (IsS108.lt (show IsS108 w0 _ g s0_0 t455 t456 from qi HI0)) : gb457 ≠ g)); replace HI0 := Aside0.mk (IsS108.below (qi HI0) hb); clear hb hbox hg; have hnb9 := NB457_450.out; have hnc9 := NB450_457.out; have hnb10 := NB457_0.out; have hnc10 := NB0_457.out; have hcz11_0 := b0 BK457; have hcz11_1 := b1 BK457; have hcz11_2 := b2 BK457; have hfz11_0 := blk_frozen BK457.out 0; have hfz11_1 := blk_frozen BK457.out 1; have hfz11_2 := blk_frozen BK457.out 2) | ((with_reducible refine gate_callee (f := 72) rfl ?_); refine goesLA (some 15) rfl Try.func72 #[.pointer (some ⟨g, 0, none⟩), .int .i64 (wrap64 ((wrap64 (1 + t454)) + 1))] ?_; (with_reducible refine (spec_l4Cur_pick.calls g s0_0 t455 t456 (wrap64 ((wrap64 (1 + t454)) + 1)) t458 t459 t460 w0 _ ?side1 ?side2 A4.out).mono ?_); (case side1 => exact qi HI0); (case side2 => exact qz HB); rintro e w12 ⟨rfl, hi, hb, hk⟩; refine ⟨_, rfl, ?_⟩; replace BK450 := Aside0.mk (KeepBut.blk hk (g' := gb450) (o := .cells #[.int .i64 0, .int .i64 0, .int .i64 0] 34 (0, 0)) (qB BK450) NB450_0.out (by simp)); replace BK457 := Aside0.mk (KeepBut.blk hk (g' := gb457) (o := .cells #[.int .i64 (wrap64 (1 + t451)), .int .i64 (wrap64 (1 + t454)), .int .i64 0] 34 (0, 0)) (by (with_reducible repeat (first | refine blk_drewN ?_ _ | refine blk_drew ?_ | refine blk_alloc ?_ _)); refine blk_put (cs := #[.int .i64 (wrap64 (1 + t451)), .int .i64 (wrap64 (1 + t454)), .int .i64 0]) ?_ 2 _ rfl; (with_reducible repeat (first | refine blk_drewN ?_ _ | refine blk_drew ?_ | refine blk_alloc ?_ _)); refine blk_put (cs := #[.int .i64 (wrap64 (1 + t451)), .int .i64 0, .int .i64 0]) ?_ 1 _ rfl; (with_reducible repeat (first | refine blk_drewN ?_ _ | refine blk_drew ?_ | refine blk_alloc ?_ _)); refine blk_put (cs := #[.int .i64 0, .int .i64 0, .int .i64 0]) ?_ 0 _ rfl; (with_reducible repeat (first | refine blk_drewN ?_ _ | refine blk_drew ?_ | refine blk_alloc ?_ _)); exact BK457.out) NB457_0.out (by simp)); replace HK := Aside0.mk (KeepBut.trans (qk HK) hk (.inl rfl)); replace HB := Aside0.mk (hb); replace HI0 := Aside0.mk (hi); clear hb hk hi; have hcz13_0 := b0 BK457; have hcz13_1 := b1 BK457; have hcz13_2 := b2 BK457; have hfz13_0 := blk_frozen BK457.out 0; have hfz13_1 := blk_frozen BK457.out 1; have hfz13_2 := blk_frozen BK457.out 2; have hnb14 := NB450_0.out; have hnc14 := NB0_450.out; have hcz15_0 := b0 BK450; have hcz15_1 := b1 BK450; have hcz15_2 := b2 BK450; have hfz15_0 := blk_frozen BK450.out 0; have hfz15_1 := blk_frozen BK450.out 1; have hfz15_2 := blk_frozen BK450.out 2))
 refine bodyPost_ret (results_cell_row rfl _ _ gb450 34 #[.int .i64 (wrap64 (1 + t451)), .int .i64 (wrap64 (1 + t454)), .int .i64 t458] (0, 0) _ rfl (by (with_reducible repeat (first | refine blk_drewN ?_ _ | refine blk_drew ?_ | refine blk_alloc ?_ _)); refine blk_put (cs := #[.int .i64 (wrap64 (1 + t451)), .int .i64 (wrap64 (1 + t454)), .int .i64 0]) ?_ 2 _ rfl; (with_reducible repeat (first | refine blk_drewN ?_ _ | refine blk_drew ?_ | refine blk_alloc ?_ _)); refine blk_put (cs := #[.int .i64 (wrap64 (1 + t451)), .int .i64 0, .int .i64 0]) ?_ 1 _ rfl; (with_reducible repeat (first | refine blk_drewN ?_ _ | refine blk_drew ?_ | refine blk_alloc ?_ _)); refine blk_put (cs := #[.int .i64 0, .int .i64 0, .int .i64 0]) ?_ 0 _ rfl; exact qB BK450) Try.underlying34 rfl (by kernel_rfl)) rfl ?_
 exact ⟨by first | rfl | (simp [errW_none, errW_some] <;> rfl) | (simp [*, errW_none, errW_some] <;> rfl), (qi HI0), (qz HB), (qk HK)⟩
def spec_l4Cur_whole.f (s0_0 : List Int) (s0_1 : Int) (s0_2 : Int) : Option (Int × Int × Int) := (spec_l4Cur_pick.f s0_0 s0_1 s0_2 6).bind fun bt515 => (if bt515.1 = 0 then ((spec_l4Cur_pick.f s0_0 bt515.2.1 bt515.2.2 3).bind fun bt518 => (some (wrap64 (9223372036854775807 - bt518.1), bt518.2.1, bt518.2.2))) else (if bt515.1 = 1 then ((spec_l4Cur_pick.f s0_0 bt515.2.1 bt515.2.2 3).bind fun bt521 => (some (wrap64 ((-9223372036854775808) + bt521.1), bt521.2.1, bt521.2.2))) else (if bt515.1 = 2 then ((spec_l4Cur_pick.f s0_0 bt515.2.1 bt515.2.2 70000).bind fun bt524 => (some (wrap64 (bt524.1 - 35000), bt524.2.1, bt524.2.2))) else ((spec_l4Cur_pick.f s0_0 bt515.2.1 bt515.2.2 12).bind fun bt527 => (some (wrap64 (bt527.1 - 3), bt527.2.1, bt527.2.2))))))
set_option maxHeartbeats 8000000 in
set_option maxRecDepth 100000 in
theorem spec_l4Cur_whole.calls (g : Nat) (s0_0 : List Int) (s0_1 : Int) (s0_2 : Int) (r1 : Int) (r2 : Int) (r3 : Int) (w0 w : World) (hI : IsS108 w0 w g s0_0 s0_1 s0_2) (hB : Below w0.heap.size w0 w) (h : spec_l4Cur_whole.f s0_0 s0_1 s0_2 = some (r1, r2, r3)) :
  Calls Try.prog 73 #[.pointer (some ⟨g, 0, none⟩)] w fun e w' => e = .returned (.int .i64 r1) ∧ IsS108 w0 w' g s0_0 r2 r3 ∧ Below w0.heap.size w0 w' ∧ KeepBut w w' g none := by
 have HI0 := Aside0.mk hI
 have HK := Aside0.mk (KeepBut.refl w g none)
 have HL := Aside0.mk hB.size
 clear hI
 have HW0 := Aside0.mk hB.size
 have HB := Aside0.mk hB
 clear hB
 have H : ((spec_l4Cur_pick.f s0_0 s0_1 s0_2 6).bind fun bt515 => (if bt515.1 = 0 then ((spec_l4Cur_pick.f s0_0 bt515.2.1 bt515.2.2 3).bind fun bt518 => (some (wrap64 (9223372036854775807 - bt518.1), bt518.2.1, bt518.2.2))) else (if bt515.1 = 1 then ((spec_l4Cur_pick.f s0_0 bt515.2.1 bt515.2.2 3).bind fun bt521 => (some (wrap64 ((-9223372036854775808) + bt521.1), bt521.2.1, bt521.2.2))) else (if bt515.1 = 2 then ((spec_l4Cur_pick.f s0_0 bt515.2.1 bt515.2.2 70000).bind fun bt524 => (some (wrap64 (bt524.1 - 35000), bt524.2.1, bt524.2.2))) else ((spec_l4Cur_pick.f s0_0 bt515.2.1 bt515.2.2 12).bind fun bt527 => (some (wrap64 (bt527.1 - 3), bt527.2.1, bt527.2.2))))))) = some (r1, r2, r3) := h
 clear h
 replace H := Option.bind_eq_some_iff.mp H
 obtain ⟨⟨t515, t516, t517⟩, A20, H⟩ := H
 replace H : (if t515 = 0 then ((spec_l4Cur_pick.f s0_0 t516 t517 3).bind fun bt518 => (some (wrap64 (9223372036854775807 - bt518.1), bt518.2.1, bt518.2.2))) else (if t515 = 1 then ((spec_l4Cur_pick.f s0_0 t516 t517 3).bind fun bt521 => (some (wrap64 ((-9223372036854775808) + bt521.1), bt521.2.1, bt521.2.2))) else (if t515 = 2 then ((spec_l4Cur_pick.f s0_0 t516 t517 70000).bind fun bt524 => (some (wrap64 (bt524.1 - 35000), bt524.2.1, bt524.2.2))) else ((spec_l4Cur_pick.f s0_0 t516 t517 12).bind fun bt527 => (some (wrap64 (bt527.1 - 3), bt527.2.1, bt527.2.2)))))) = some (r1, r2, r3) := H
 have A2 := Aside0.mk A20
 clear A20
 by_cases c3 : t515 = 0
 ·rw [if_pos c3] at H
  have c3b0 : (t515 == 0) = true := beq_iff_eq.mpr c3
  have c3b1 : (t515 != 0) = false := bne_eq_false_iff_eq.mpr c3
  clear c3
  replace H := Option.bind_eq_some_iff.mp H
  obtain ⟨⟨t518, t519, t520⟩, A40, H⟩ := H
  replace H : (some (wrap64 (9223372036854775807 - t518), t519, t520)) = some (r1, r2, r3) := H
  have A4 := Aside0.mk A40
  clear A40
  simp only [Option.some.injEq, Prod.mk.injEq] at H
  obtain ⟨rfl, rfl, rfl⟩ := H
  go_enter Try.func73, Try.ntmps73
  go_wp2_with (first | ((with_reducible refine gate_callee (f := 72) rfl ?_); refine goesLA (some 4) rfl Try.func72 #[.pointer (some ⟨g, 0, none⟩), .int .i64 6] ?_; (with_reducible refine (spec_l4Cur_pick.calls g s0_0 s0_1 s0_2 6 t515 t516 t517 w0 _ ?side1 ?side2 A2.out).mono ?_); (case side1 => exact qi HI0); (case side2 => exact qz HB); rintro e w5 ⟨rfl, hi, hb, hk⟩; refine ⟨_, rfl, ?_⟩; replace HK := Aside0.mk (KeepBut.trans (qk HK) hk (.inl rfl)); replace HB := Aside0.mk (hb); replace HI0 := Aside0.mk (hi); clear hb hk hi) | ((with_reducible refine gate_callee (f := 72) rfl ?_); refine goesLA (some 8) rfl Try.func72 #[.pointer (some ⟨g, 0, none⟩), .int .i64 3] ?_; (with_reducible refine (spec_l4Cur_pick.calls g s0_0 t516 t517 3 t518 t519 t520 w0 _ ?side1 ?side2 A4.out).mono ?_); (case side1 => exact qi HI0); (case side2 => exact qz HB); rintro e w6 ⟨rfl, hi, hb, hk⟩; refine ⟨_, rfl, ?_⟩; replace HK := Aside0.mk (KeepBut.trans (qk HK) hk (.inl rfl)); replace HB := Aside0.mk (hb); replace HI0 := Aside0.mk (hi); clear hb hk hi))
  go_ret
  exact ⟨by first | rfl | (simp [errW_none, errW_some] <;> rfl) | (simp [*, errW_none, errW_some] <;> rfl), (qi HI0), (qz HB), (qk HK)⟩
 rw [if_neg c3] at H
 have c3b0 : (t515 == 0) = false := beq_eq_false_iff_ne.mpr c3
 have c3b1 : (t515 != 0) = true := bne_iff_ne.mpr c3
 by_cases c7 : t515 = 1
 ·rw [if_pos c7] at H
  have c7b0 : (t515 == 1) = true := beq_iff_eq.mpr c7
  have c7b1 : (t515 != 1) = false := bne_eq_false_iff_eq.mpr c7
  clear c7
  replace H := Option.bind_eq_some_iff.mp H
  obtain ⟨⟨t521, t522, t523⟩, A80, H⟩ := H
  replace H : (some (wrap64 ((-9223372036854775808) + t521), t522, t523)) = some (r1, r2, r3) := H
  have A8 := Aside0.mk A80
  clear A80
  simp only [Option.some.injEq, Prod.mk.injEq] at H
  obtain ⟨rfl, rfl, rfl⟩ := H
  go_enter Try.func73, Try.ntmps73
  go_wp2_with (first | ((with_reducible refine gate_callee (f := 72) rfl ?_); refine goesLA (some 4) rfl Try.func72 #[.pointer (some ⟨g, 0, none⟩), .int .i64 6] ?_; (with_reducible refine (spec_l4Cur_pick.calls g s0_0 s0_1 s0_2 6 t515 t516 t517 w0 _ ?side1 ?side2 A2.out).mono ?_); (case side1 => exact qi HI0); (case side2 => exact qz HB); rintro e w9 ⟨rfl, hi, hb, hk⟩; refine ⟨_, rfl, ?_⟩; replace HK := Aside0.mk (KeepBut.trans (qk HK) hk (.inl rfl)); replace HB := Aside0.mk (hb); replace HI0 := Aside0.mk (hi); clear hb hk hi) | ((with_reducible refine gate_callee (f := 72) rfl ?_); refine goesLA (some 13) rfl Try.func72 #[.pointer (some ⟨g, 0, none⟩), .int .i64 3] ?_; (with_reducible refine (spec_l4Cur_pick.calls g s0_0 t516 t517 3 t521 t522 t523 w0 _ ?side1 ?side2 A8.out).mono ?_); (case side1 => exact qi HI0); (case side2 => exact qz HB); rintro e w10 ⟨rfl, hi, hb, hk⟩; refine ⟨_, rfl, ?_⟩; replace HK := Aside0.mk (KeepBut.trans (qk HK) hk (.inl rfl)); replace HB := Aside0.mk (hb); replace HI0 := Aside0.mk (hi); clear hb hk hi))
  go_ret
  exact ⟨by first | rfl | (simp [errW_none, errW_some] <;> rfl) | (simp [*, errW_none, errW_some] <;> rfl), (qi HI0), (qz HB), (qk HK)⟩
 rw [if_neg c7] at H
 have c7b0 : (t515 == 1) = false := beq_eq_false_iff_ne.mpr c7
 have c7b1 : (t515 != 1) = true := bne_iff_ne.mpr c7
 by_cases c11 : t515 = 2
 ·rw [if_pos c11] at H
  have c11b0 : (t515 == 2) = true := beq_iff_eq.mpr c11
  have c11b1 : (t515 != 2) = false := bne_eq_false_iff_eq.mpr c11
  clear c11
  replace H := Option.bind_eq_some_iff.mp H
  obtain ⟨⟨t524, t525, t526⟩, A120, H⟩ := H
  replace H : (some (wrap64 (t524 - 35000), t525, t526)) = some (r1, r2, r3) := H
  have A12 := Aside0.mk A120
  clear A120
  simp only [Option.some.injEq, Prod.mk.injEq] at H
  obtain ⟨rfl, rfl, rfl⟩ := H
  go_enter Try.func73, Try.ntmps73
  go_wp2_with (first | ((with_reducible refine gate_callee (f := 72) rfl ?_); refine goesLA (some 4) rfl Try.func72 #[.pointer (some ⟨g, 0, none⟩), .int .i64 6] ?_; (with_reducible refine (spec_l4Cur_pick.calls g s0_0 s0_1 s0_2 6 t515 t516 t517 w0 _ ?side1 ?side2 A2.out).mono ?_); (case side1 => exact qi HI0); (case side2 => exact qz HB); rintro e w13 ⟨rfl, hi, hb, hk⟩; refine ⟨_, rfl, ?_⟩; replace HK := Aside0.mk (KeepBut.trans (qk HK) hk (.inl rfl)); replace HB := Aside0.mk (hb); replace HI0 := Aside0.mk (hi); clear hb hk hi) | ((with_reducible refine gate_callee (f := 72) rfl ?_); refine goesLA (some 18) rfl Try.func72 #[.pointer (some ⟨g, 0, none⟩), .int .i64 70000] ?_; (with_reducible refine (spec_l4Cur_pick.calls g s0_0 t516 t517 70000 t524 t525 t526 w0 _ ?side1 ?side2 A12.out).mono ?_); (case side1 => exact qi HI0); (case side2 => exact qz HB); rintro e w14 ⟨rfl, hi, hb, hk⟩; refine ⟨_, rfl, ?_⟩; replace HK := Aside0.mk (KeepBut.trans (qk HK) hk (.inl rfl)); replace HB := Aside0.mk (hb); replace HI0 := Aside0.mk (hi); clear hb hk hi))
  go_ret
  exact ⟨by first | rfl | (simp [errW_none, errW_some] <;> rfl) | (simp [*, errW_none, errW_some] <;> rfl), (qi HI0), (qz HB), (qk HK)⟩
 rw [if_neg c11] at H
 have c11b0 : (t515 == 2) = false := beq_eq_false_iff_ne.mpr c11
 have c11b1 : (t515 != 2) = true := bne_iff_ne.mpr c11
 replace H := Option.bind_eq_some_iff.mp H
 obtain ⟨⟨t527, t528, t529⟩, A150, H⟩ := H
 replace H : (some (wrap64 (t527 - 3), t528, t529)) = some (r1, r2, r3) := H
 have A15 := Aside0.mk A150
 clear A150
 simp only [Option.some.injEq, Prod.mk.injEq] at H
 obtain ⟨rfl, rfl, rfl⟩ := H
 go_enter Try.func73, Try.ntmps73
 go_wp2_with (first | ((with_reducible refine gate_callee (f := 72) rfl ?_); refine goesLA (some 4) rfl Try.func72 #[.pointer (some ⟨g, 0, none⟩), .int .i64 6] ?_; (with_reducible refine (spec_l4Cur_pick.calls g s0_0 s0_1 s0_2 6 t515 t516 t517 w0 _ ?side1 ?side2 A2.out).mono ?_); (case side1 => exact qi HI0); (case side2 => exact qz HB); rintro e w16 ⟨rfl, hi, hb, hk⟩; refine ⟨_, rfl, ?_⟩; replace HK := Aside0.mk (KeepBut.trans (qk HK) hk (.inl rfl)); replace HB := Aside0.mk (hb); replace HI0 := Aside0.mk (hi); clear hb hk hi) | ((with_reducible refine gate_callee (f := 72) rfl ?_); refine goesLA (some 21) rfl Try.func72 #[.pointer (some ⟨g, 0, none⟩), .int .i64 12] ?_; (with_reducible refine (spec_l4Cur_pick.calls g s0_0 t516 t517 12 t527 t528 t529 w0 _ ?side1 ?side2 A15.out).mono ?_); (case side1 => exact qi HI0); (case side2 => exact qz HB); rintro e w17 ⟨rfl, hi, hb, hk⟩; refine ⟨_, rfl, ?_⟩; replace HK := Aside0.mk (KeepBut.trans (qk HK) hk (.inl rfl)); replace HB := Aside0.mk (hb); replace HI0 := Aside0.mk (hi); clear hb hk hi))
 go_ret
 exact ⟨by first | rfl | (simp [errW_none, errW_some] <;> rfl) | (simp [*, errW_none, errW_some] <;> rfl), (qi HI0), (qz HB), (qk HK)⟩
end Go.Proofs.Ytndffnacbfdnoaa.PAll
