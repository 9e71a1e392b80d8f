-- Lines of PAllx25 that this claim uses.
import Derived.Test.YtndffnacbfdnoaaCOSqd
import Derived.Test.YtndffnacbfdnoaaCOSqc
import Derived.Test.YtndffnacbfdnoaaCOSq
import Derived.Test.YtndffnacbfdnoaaCOPAllx0
import Derived.Test.YtndffnacbfdnoaaCOPAllx15
namespace Go.Proofs.Ytndffnacbfdnoaa.PAll
open Go.RowKit Go.Proofs.YtndffnacbfdnoaaW.PrintWords Go.Proofs.YtndffnacbfdnoaaW.PrintLast Go.Proofs.YtndffnacbfdnoaaW.PrintMore
attribute [local go_sem] max2_int min2_int max_two min_two max_three min_three max_four min_four   -- for this text's walks alone
set_option linter.unusedVariables false
set_option linter.unusedSimpArgs false
def spec_l4Cur_sets.l0 : Nat → Int → List (S84) → Int → Int → List Int → Int → Int → Option ((List (S84)) × Int × Int)
 | 0, _, _, _, _, _, _, _ => none
 | k + 1, x1, x5, x6, x7, x1000, x1001, x1002 => if x7 > 0 then ((spec_l4Cur_pick.f x1000 x1001 x1002 9).bind fun bt930 => (if (wrap64 (x6 + bt930.1)) > x1 then (some (x5, bt930.2.1, bt930.2.2)) else ((spec_l4Cur_whole.f x1000 bt930.2.1 bt930.2.2).bind fun bt933 => (if x5.length < 8796093022208 then (spec_l4Cur_sets.l0 k x1 (x5 ++ [(⟨wrap64 (x6 + bt930.1), bt933.1⟩ : S84)]) (wrap64 (x6 + bt930.1)) (wrap64 (x7 - 1)) x1000 bt933.2.1 bt933.2.2) else (none))))) else (some (x5, x1001, x1002))
def spec_l4Cur_sets.f (k : Nat) (s0_0 : List Int) (s0_1 : Int) (s0_2 : Int) (a1 : Int) : Option ((List (S84)) × Int × Int) := (spec_l4Cur_pick.f s0_0 s0_1 s0_2 8).bind fun bt927 => (spec_l4Cur_sets.l0 k a1 ([] : List (S84)) 1 bt927.1 s0_0 bt927.2.1 bt927.2.2)
set_option maxHeartbeats 8000000 in
set_option maxRecDepth 100000 in
theorem spec_l4Cur_sets.calls (k : Nat) (g : Nat) (s0_0 : List Int) (s0_1 : Int) (s0_2 : Int) (a1 : Int) (r1 : List (S84)) (r2 : Int) (r3 : Int) (w0 w : World) (hI : IsS108 w0 w g s0_0 s0_1 s0_2) (hB : Below w0.heap.size w0 w) (h : spec_l4Cur_sets.f k s0_0 s0_1 s0_2 a1 = some (r1, r2, r3)) :
  Calls Try.prog 92 #[.pointer (some ⟨g, 0, none⟩), .int .i64 a1] w fun e w' => ∃ v0_ : Value, e = .returned (v0_) ∧ Kd.R k84 84 w' w.heap.size (fun _ => True) v0_ r1 ∧ IsS108 w0 w' g s0_0 r2 r3 ∧ Below w0.heap.size w0 w' ∧ KeepBut w w' g none := by
 have hu84 := Try.underlying84
 have HI0 := Aside0.mk hI
 have HK := Aside0.mk (KeepBut.refl w g none)
 have HL := Aside0.mk hB.size
 clear hI
 have HW0 := Aside0.mk hB.size
 have HB := Aside0.mk hB
 clear hB
 have H : ((spec_l4Cur_pick.f s0_0 s0_1 s0_2 8).bind fun bt927 => (spec_l4Cur_sets.l0 k a1 ([] : List (S84)) 1 bt927.1 s0_0 bt927.2.1 bt927.2.2)) = some (r1, r2, r3) := h
 clear h
 replace H := Option.bind_eq_some_iff.mp H
 obtain ⟨⟨t927, t928, t929⟩, A30, H⟩ := H
 replace H : (spec_l4Cur_sets.l0 k a1 ([] : List (S84)) 1 t927 s0_0 t928 t929) = some (r1, r2, r3) := H
 have A3 := Aside0.mk A30
 clear A30
 have H' := Aside0.mk H
 clear H
 go_enter Try.func92, Try.ntmps92
 go_wp2_with (first | ((with_reducible refine gate_callee (f := 72) rfl ?_); refine goesLA (some 9) rfl Try.func72 #[.pointer (some ⟨g, 0, none⟩), .int .i64 8] ?_; (with_reducible refine (spec_l4Cur_pick.calls g s0_0 s0_1 s0_2 8 t927 t928 t929 w0 _ ?side1 ?side2 A3.out).mono ?_); (case side1 => exact qi HI0); (case side2 => exact qz HB); rintro e w4 ⟨rfl, hi, hb, hk⟩; refine ⟨_, rfl, ?_⟩; replace HK := Aside0.mk (KeepBut.trans (qk HK) hk (.inl rfl)); replace HB := Aside0.mk (hb); replace HI0 := Aside0.mk (hi); clear hb hk hi))
 go_loopg [5, 6, 7] k (fun kq v5 v6 v7 w' => ∃ (x5_1 : List (S84)) (x6_1 : Int) (x7_1 : Int) (x1001_1 : Int) (x1002_1 : Int), v6 = .int .i64 x6_1 ∧ v7 = .int .i64 x7_1 ∧ Aside0 (spec_l4Cur_sets.l0 kq a1 x5_1 x6_1 x7_1 s0_0 x1001_1 x1002_1 = some (r1, r2, r3)) ∧ Aside0 (kq ≤ k) ∧ Aside0 (Kd.R k84 84 w' w.heap.size (fun _ => True) v5 x5_1) ∧ Aside0 (IsS108 w0 w' g s0_0 x1001_1 x1002_1) ∧ Aside0 (KeepBut w w' g none) ∧ Aside0 (Below w0.heap.size w0 w'))
 case atStart => exact ⟨(([] : List (S84))), (1), (t927), (t928), (t929), (by first | rfl | (simp; done) | (simp [*]; done)), (by first | rfl | (simp; done) | (simp [*]; done)), H', ⟨Nat.le_refl _⟩, ⟨by first | exact Kd.R_nil _ _ _ _ _ | exact Kd.N_nil _ _ _ _ _ | exact Kd.V_nil _ _ _ _ _ | exact Kd.Q_nil _ _ _ _ _ | exact Kd.S_nil _ _ _ _ _⟩, ⟨(qi HI0)⟩, ⟨(qk HK)⟩, ⟨(qz HB)⟩⟩
 case round =>
  clear H'
  try clear p2
  obtain ⟨x5_1, x6_1, x7_1, x1001_1, x1002_1, rfl, rfl, HA, HK1, HO_5, HI0, HK, HB⟩ := hrel
  cases gk with
  | zero => exact absurd HA.out (by simp [spec_l4Cur_sets.l0])
  | succ k1 =>
   have H := HA.out
   clear HA
   simp only [spec_l4Cur_sets.l0] at H
   by_cases c5 : x7_1 > 0
   ·rw [if_pos c5] at H
    have c5b0 : decide (0 < x7_1) = true := decide_eq_true c5
    clear c5
    replace H := Option.bind_eq_some_iff.mp H
    obtain ⟨⟨t930, t931, t932⟩, A60, H⟩ := H
    replace H : (if (wrap64 (x6_1 + t930)) > a1 then (some (x5_1, t931, t932)) else ((spec_l4Cur_whole.f s0_0 t931 t932).bind fun bt933 => (if x5_1.length < 8796093022208 then (spec_l4Cur_sets.l0 k1 a1 (x5_1 ++ [(⟨wrap64 (x6_1 + t930), bt933.1⟩ : S84)]) (wrap64 (x6_1 + t930)) (wrap64 (x7_1 - 1)) s0_0 bt933.2.1 bt933.2.2) else (none)))) = some (r1, r2, r3) := H
    have A6 := Aside0.mk A60
    clear A60
    by_cases c7 : (wrap64 (x6_1 + t930)) > a1
    ·rw [if_pos c7] at H
     have c7b0 : decide (a1 < (wrap64 (x6_1 + t930))) = true := decide_eq_true c7
     clear c7
     simp only [Option.some.injEq, Prod.mk.injEq] at H
     obtain ⟨rfl, rfl, rfl⟩ := H
     go_wp2_with (first | ((with_reducible refine gate_callee (f := 72) rfl ?_); refine goesLA (some 16) rfl Try.func72 #[.pointer (some ⟨g, 0, none⟩), .int .i64 9] ?_; (with_reducible refine (spec_l4Cur_pick.calls g s0_0 x1001_1 x1002_1 9 t930 t931 t932 w0 _ ?side1 ?side2 A6.out).mono ?_); (case side1 => exact qi HI0); (case side2 => exact qz HB); rintro e w8 ⟨rfl, hi, hb, hk⟩; refine ⟨_, rfl, ?_⟩; replace HO_5 := Aside0.mk (Kd.R_mono (Kd.R_keep (IsS108.apart (show IsS108 w0 _ g s0_0 x1001_1 x1002_1 from qi HI0) (qr HO_5) (by decide)) hk (fun _ h => h.2)) (fun _ h => h.1)); replace HK := Aside0.mk (KeepBut.trans (qk HK) hk (.inl rfl)); replace HB := Aside0.mk (hb); replace HI0 := Aside0.mk (hi); clear hb hk hi))
     go_ret
     exact ⟨_, by first | rfl | (simp [errW_none, errW_some] <;> rfl) | (simp [*, errW_none, errW_some] <;> rfl), by (with_reducible repeat (first | apply Kd.R_alloc | apply Kd.R_drewN | apply Kd.R_drew)); exact HO_5.out, (qi HI0), (qz HB), (qk HK)⟩
    rw [if_neg c7] at H
    have c7b0 : decide (a1 < (wrap64 (x6_1 + t930))) = false := decide_eq_false c7
    clear c7
    replace H := Option.bind_eq_some_iff.mp H
    obtain ⟨⟨t933, t934, t935⟩, A90, H⟩ := H
    replace H : (if x5_1.length < 8796093022208 then (spec_l4Cur_sets.l0 k1 a1 (x5_1 ++ [(⟨wrap64 (x6_1 + t930), t933⟩ : S84)]) (wrap64 (x6_1 + t930)) (wrap64 (x7_1 - 1)) s0_0 t934 t935) else (none)) = some (r1, r2, r3) := H
    have A9 := Aside0.mk A90
    clear A90
    by_cases c10 : x5_1.length < 8796093022208
    ·rw [if_pos c10] at H
     have LMc10 := Aside0.mk c10
     clear c10
     obtain ⟨y936, hy936⟩ : ∃ y_ : List (S84), y_ = (x5_1 ++ [(⟨wrap64 (x6_1 + t930), t933⟩ : S84)]) := ⟨_, rfl⟩
     replace H : (spec_l4Cur_sets.l0 k1 a1 y936 (wrap64 (x6_1 + t930)) (wrap64 (x7_1 - 1)) s0_0 t934 t935) = some (r1, r2, r3) := by first | (rw [hy936]; with_reducible exact H) | (have H2_ := (Option.bind_some _ _).symm.trans H; rw [hy936]; with_reducible exact H2_) | (have H2_ := (Option.bind_some _ _).symm.trans H; with_reducible exact H2_) | with_reducible exact H | (rw [hy936]; exact H) | exact H
     have Ny936 := Aside0.mk hy936
     clear hy936
     have H' := Aside0.mk H
     clear H
     go_wp2_with (first | ((with_reducible refine gate_callee (f := 72) rfl ?_); refine goesLA (some 16) rfl Try.func72 #[.pointer (some ⟨g, 0, none⟩), .int .i64 9] ?_; (with_reducible refine (spec_l4Cur_pick.calls g s0_0 x1001_1 x1002_1 9 t930 t931 t932 w0 _ ?side1 ?side2 A6.out).mono ?_); (case side1 => exact qi HI0); (case side2 => exact qz HB); rintro e w11 ⟨rfl, hi, hb, hk⟩; refine ⟨_, rfl, ?_⟩; replace HO_5 := Aside0.mk (Kd.R_mono (Kd.R_keep (IsS108.apart (show IsS108 w0 _ g s0_0 x1001_1 x1002_1 from qi HI0) (qr HO_5) (by decide)) hk (fun _ h => h.2)) (fun _ h => h.1)); replace HK := Aside0.mk (KeepBut.trans (qk HK) hk (.inl rfl)); replace HB := Aside0.mk (hb); replace HI0 := Aside0.mk (hi); clear hb hk hi) | ((with_reducible refine gate_callee (f := 73) rfl ?_); refine goesLA (some 25) rfl Try.func73 #[.pointer (some ⟨g, 0, none⟩)] ?_; (with_reducible refine (spec_l4Cur_whole.calls g s0_0 t931 t932 t933 t934 t935 w0 _ ?side1 ?side2 A9.out).mono ?_); (case side1 => exact qi HI0); (case side2 => exact qz HB); rintro e w12 ⟨rfl, hi, hb, hk⟩; refine ⟨_, rfl, ?_⟩; replace HO_5 := Aside0.mk (Kd.R_mono (Kd.R_keep (IsS108.apart (show IsS108 w0 _ g s0_0 t931 t932 from qi HI0) (qr HO_5) (by decide)) hk (fun _ h => h.2)) (fun _ h => h.1)); replace HK := Aside0.mk (KeepBut.trans (qk HK) hk (.inl rfl)); replace HB := Aside0.mk (hb); replace HI0 := Aside0.mk (hi); clear hb hk hi) | ((with_reducible refine gate_builtin (b := .append) (xs := #[.tmp 22, .tmp 27]) rfl ?_); at_builtin; refine Kd.R_append k84 w.heap.size rfl (.tmp 22) (.tmp 27) 70 84 (.agg #[(.int .i64 0), (.int .i64 0)]) 16 rfl Try.underlying70 info84 rfl (by decide) (by omega) u5 x5_1 (⟨wrap64 (x6_1 + t930), t933⟩ : S84) [.int .i64 (wrap64 (x6_1 + t930)), .int .i64 t933] (fun _ => True) (fun _ => False) rfl rfl ?aP (fun _ hk => hk.elim) ?aF ?aO (Below.refl _ _) ?aS ?aL ?_; (case aP => exact k84_mkM _ _ _ (⟨wrap64 (x6_1 + t930), t933⟩ : S84)); (case aF => exact (fun _ _ => trivial)); (case aO => exact (qr HO_5)); (case aS => exact (keep_size (w := w) (g := g) (row := none) (qk HK))); (case aL => have := LMc10.out; omega); intro v937 w13 ho hb hg hat; rw [← Ny936.out] at ho; replace HI0 := Aside0.mk (IsS108.grown (qi HI0) hg (IsS108.own_ne HI0.out HO_5.out (by decide))); replace HB := Aside0.mk (below_weaken (qz HB) HL.out hb); replace HK := Aside0.mk (KeepBut.trans (qk HK) (KeepBut.of_grown hg g) (Kd.R_base2 HO_5.out)); have HO938 := Aside0.mk (ho); clear HO_5; clear ho hb hg hat))
     go_roundg k1
     case measure => have := HK1.out; omega
     case rel => exact ⟨(y936), (wrap64 (x6_1 + t930)), (wrap64 (x7_1 - 1)), (t934), (t935), (by first | rfl | (simp; done) | (simp [*]; done)), (by first | rfl | (simp; done) | (simp [*]; done)), H', ⟨by have := HK1.out; omega⟩, ⟨by (with_reducible repeat (first | apply Kd.R_alloc | apply Kd.R_drewN | apply Kd.R_drew)); exact HO938.out⟩, ⟨(qi HI0)⟩, ⟨(qk HK)⟩, ⟨(qz HB)⟩⟩
    rw [if_neg c10] at H
    exact absurd H (by simp)
   rw [if_neg c5] at H
   have c5b0 : decide (0 < x7_1) = false := decide_eq_false c5
   clear c5
   simp only [Option.some.injEq, Prod.mk.injEq] at H
   obtain ⟨rfl, rfl, rfl⟩ := H
   go_wp2
   go_ret
   exact ⟨_, by first | rfl | (simp [errW_none, errW_some] <;> rfl) | (simp [*, errW_none, errW_some] <;> rfl), by (with_reducible repeat (first | apply Kd.R_alloc | apply Kd.R_drewN | apply Kd.R_drew)); exact HO_5.out, (qi HI0), (qz HB), (qk HK)⟩
end Go.Proofs.Ytndffnacbfdnoaa.PAll
