-- Lines of PAllx26 that this claim uses.
import Derived.Test.YtndffnacbfdnoaaCOSqd
import Derived.Test.YtndffnacbfdnoaaCOSqc
import Derived.Test.YtndffnacbfdnoaaCOSq
import Derived.Test.YtndffnacbfdnoaaCOPAllx0
import Derived.Test.YtndffnacbfdnoaaCOPAllx7
import Derived.Test.YtndffnacbfdnoaaCOPAllx12
import Derived.Test.YtndffnacbfdnoaaCOPAllx15
import Derived.Test.YtndffnacbfdnoaaCOPAllx25
namespace Go.Proofs.Ytndffnacbfdnoaa.PAll
open Go.RowKit Go.Proofs.YtndffnacbfdnoaaW.PrintWords Go.Proofs.YtndffnacbfdnoaaW.PrintLast Go.Proofs.YtndffnacbfdnoaaW.PrintMore
attribute [local go_sem] max2_int min2_int max_two min_two max_three min_three max_four min_four   -- for this text's walks alone
set_option linter.unusedVariables false
set_option linter.unusedSimpArgs false
mutual
def spec_l4Cur_fates.l0 : Nat → List (List Int) → Int → Int → List Int → Int → Int → Option ((List (List Int)) × Int × Int)
 | 0, _, _, _, _, _, _ => none
 | k + 1, x3, x4, x5, x1000, x1001, x1002 => if x5 > 0 then (if x4 = 0 then (spec_l4Cur_fates.j1 k x3 x4 x5 ([] : List Int) true x1000 x1001 x1002) else ((spec_l4Cur_pick.f x1000 x1001 x1002 4).bind fun bt945 => (spec_l4Cur_fates.j1 k x3 x4 x5 ([] : List Int) (decide (bt945.1 > x4)) x1000 bt945.2.1 bt945.2.2))) else (some (x3, x1001, x1002))
def spec_l4Cur_fates.j1 : Nat → List (List Int) → Int → Int → List Int → Bool → List Int → Int → Int → Option ((List (List Int)) × Int × Int)
 | 0, _, _, _, _, _, _, _, _ => none
 | k + 1, x3, x4, x5, x6, x23, x1000, x1001, x1002 => if x23 = true then ((spec_l4Cur_pick.f x1000 x1001 x1002 4).bind fun bt948 => (if x6.length < 17592186044416 then (spec_l4Cur_fates.j2 k x3 x4 x5 (x6 ++ [wrap64 (1 + bt948.1)]) x1000 bt948.2.1 bt948.2.2) else (none))) else (spec_l4Cur_fates.j2 k x3 x4 x5 x6 x1000 x1001 x1002)
def spec_l4Cur_fates.j2 : Nat → List (List Int) → Int → Int → List Int → List Int → Int → Int → Option ((List (List Int)) × Int × Int)
 | 0, _, _, _, _, _, _, _ => none
 | k + 1, x3, x4, x5, x6, x1000, x1001, x1002 => spec_l4Cur_fates.l1 k x3 x4 x5 x6 0 x1000 x1001 x1002
def spec_l4Cur_fates.l1 : Nat → List (List Int) → Int → Int → List Int → Int → List Int → Int → Int → Option ((List (List Int)) × Int × Int)
 | 0, _, _, _, _, _, _, _, _ => none
 | k + 1, x3, x4, x5, x6, x7, x1000, x1001, x1002 => if x7 < 5 then ((spec_l4Cur_pick.f x1000 x1001 x1002 6).bind fun bt954 => (if bt954.1 = 0 then ((spec_l4Cur_pick.f x1000 bt954.2.1 bt954.2.2 14).bind fun bt957 => (if x6.length < 17592186044416 then (spec_l4Cur_fates.l1 k x3 x4 x5 (x6 ++ [wrap64 (1 + bt957.1)]) (wrap64 (x7 + 1)) x1000 bt957.2.1 bt957.2.2) else (none))) else (if x3.length < 5864062014805 then (spec_l4Cur_fates.l0 k (x3 ++ [x6]) x4 (wrap64 (x5 - 1)) x1000 bt954.2.1 bt954.2.2) else (none)))) else (if x3.length < 5864062014805 then (spec_l4Cur_fates.l0 k (x3 ++ [x6]) x4 (wrap64 (x5 - 1)) x1000 x1001 x1002) else (none))
end
def spec_l4Cur_fates.f (k : Nat) (s0_0 : List Int) (s0_1 : Int) (s0_2 : Int) : Option ((List (List Int)) × Int × Int) := (spec_l4Cur_pick.f s0_0 s0_1 s0_2 3).bind fun bt939 => ((spec_l4Cur_pick.f s0_0 bt939.2.1 bt939.2.2 60).bind fun bt942 => (spec_l4Cur_fates.l0 k ([] : List (List Int)) bt939.1 bt942.1 s0_0 bt942.2.1 bt942.2.2))
set_option maxHeartbeats 8000000 in
set_option maxRecDepth 100000 in
theorem spec_l4Cur_fates.calls (k : Nat) (g : Nat) (s0_0 : List Int) (s0_1 : Int) (s0_2 : Int) (r1 : List (List Int)) (r2 : Int) (r3 : Int) (w0 w : World) (hI : IsS108 w0 w g s0_0 s0_1 s0_2) (hB : Below w0.heap.size w0 w) (h : spec_l4Cur_fates.f k s0_0 s0_1 s0_2 = some (r1, r2, r3)) :
  Calls Try.prog 93 #[.pointer (some ⟨g, 0, none⟩)] w fun e w' => ∃ v0_ : Value, e = .returned (v0_) ∧ Kd.S (Kd.slice 3 (Kd.int .i64)) 82 w' w.heap.size (fun _ => True) v0_ r1 ∧ IsS108 w0 w' g s0_0 r2 r3 ∧ Below w0.heap.size w0 w' ∧ KeepBut w w' g none := by
 have HI0 := Aside0.mk hI
 have HK := Aside0.mk (KeepBut.refl w g none)
 have HL := Aside0.mk hB.size
 clear hI
 have HW0 := Aside0.mk hB.size
 have HB := Aside0.mk hB
 clear hB
 have H : ((spec_l4Cur_pick.f s0_0 s0_1 s0_2 3).bind fun bt939 => ((spec_l4Cur_pick.f s0_0 bt939.2.1 bt939.2.2 60).bind fun bt942 => (spec_l4Cur_fates.l0 k ([] : List (List Int)) bt939.1 bt942.1 s0_0 bt942.2.1 bt942.2.2))) = some (r1, r2, r3) := h
 clear h
 replace H := Option.bind_eq_some_iff.mp H
 obtain ⟨⟨t939, t940, t941⟩, A20, H⟩ := H
 replace H : ((spec_l4Cur_pick.f s0_0 t940 t941 60).bind fun bt942 => (spec_l4Cur_fates.l0 k ([] : List (List Int)) t939 bt942.1 s0_0 bt942.2.1 bt942.2.2)) = some (r1, r2, r3) := H
 have A2 := Aside0.mk A20
 clear A20
 replace H := Option.bind_eq_some_iff.mp H
 obtain ⟨⟨t942, t943, t944⟩, A30, H⟩ := H
 replace H : (spec_l4Cur_fates.l0 k ([] : List (List Int)) t939 t942 s0_0 t943 t944) = some (r1, r2, r3) := H
 have A3 := Aside0.mk A30
 clear A30
 have H' := Aside0.mk H
 clear H
 go_enter Try.func93, Try.ntmps93
 go_wp2_with (first | ((with_reducible refine gate_callee (f := 72) rfl ?_); refine goesLA (some 9) rfl Try.func72 #[.pointer (some ⟨g, 0, none⟩), .int .i64 3] ?_; (with_reducible refine (spec_l4Cur_pick.calls g s0_0 s0_1 s0_2 3 t939 t940 t941 w0 _ ?side1 ?side2 A2.out).mono ?_); (case side1 => exact qi HI0); (case side2 => exact qz HB); rintro e w4 ⟨rfl, hi, hb, hk⟩; refine ⟨_, rfl, ?_⟩; replace HK := Aside0.mk (KeepBut.trans (qk HK) hk (.inl rfl)); replace HB := Aside0.mk (hb); replace HI0 := Aside0.mk (hi); clear hb hk hi) | ((with_reducible refine gate_callee (f := 72) rfl ?_); refine goesLA (some 11) rfl Try.func72 #[.pointer (some ⟨g, 0, none⟩), .int .i64 60] ?_; (with_reducible refine (spec_l4Cur_pick.calls g s0_0 t940 t941 60 t942 t943 t944 w0 _ ?side1 ?side2 A3.out).mono ?_); (case side1 => exact qi HI0); (case side2 => exact qz HB); rintro e w5 ⟨rfl, hi, hb, hk⟩; refine ⟨_, rfl, ?_⟩; replace HK := Aside0.mk (KeepBut.trans (qk HK) hk (.inl rfl)); replace HB := Aside0.mk (hb); replace HI0 := Aside0.mk (hi); clear hb hk hi))
 go_loopg [3, 5] k (fun kq v3 v5 w' => ∃ (x3_1 : List (List Int)) (x5_1 : Int) (x1001_1 : Int) (x1002_1 : Int), v5 = .int .i64 x5_1 ∧ Aside0 (spec_l4Cur_fates.l0 kq x3_1 t939 x5_1 s0_0 x1001_1 x1002_1 = some (r1, r2, r3)) ∧ Aside0 (kq ≤ k) ∧ Aside0 (Kd.S (Kd.slice 3 (Kd.int .i64)) 82 w' w.heap.size (fun _ => True) v3 x3_1) ∧ Aside0 (IsS108 w0 w' g s0_0 x1001_1 x1002_1) ∧ Aside0 (KeepBut w w' g none) ∧ Aside0 (Below w0.heap.size w0 w'))
 case atStart => exact ⟨(([] : List (List Int))), (t942), (t943), (t944), (by first | rfl | (simp; done) | (simp [*]; done)), H', ⟨Nat.le_refl _⟩, ⟨by first | exact Kd.S_nil _ _ _ _ _ | exact Kd.N_nil _ _ _ _ _ | exact Kd.V_nil _ _ _ _ _ | exact Kd.Q_nil _ _ _ _ _ | exact Kd.R_nil _ _ _ _ _⟩, ⟨(qi HI0)⟩, ⟨(qk HK)⟩, ⟨(qz HB)⟩⟩
 case round =>
  clear H'
  try clear p2
  obtain ⟨x3_1, x5_1, x1001_1, x1002_1, rfl, HA, HK1, HO_3, HI0, HK, HB⟩ := hrel
  cases gk with
  | zero => exact absurd HA.out (by simp [spec_l4Cur_fates.l0])
  | succ k1 =>
   have H := HA.out
   clear HA
   simp only [spec_l4Cur_fates.l0] at H
   by_cases c6 : x5_1 > 0
   ·rw [if_pos c6] at H
    have c6b0 : decide (0 < x5_1) = true := decide_eq_true c6
    clear c6
    have HC7 := Aside0.mk H
    clear H
    go_upto_region 7 with (fail)
    go_cut [23] (fun v23 wc => ∃ (kq : Nat) (x23_6 : Bool) (x1001_6 : Int) (x1002_6 : Int), v23 = .bool x23_6 ∧ Aside0 (spec_l4Cur_fates.j1 kq x3_1 t939 x5_1 ([] : List Int) x23_6 s0_0 x1001_6 x1002_6 = some (r1, r2, r3)) ∧ Aside0 (kq ≤ k1) ∧ Aside0 (Kd.S (Kd.slice 3 (Kd.int .i64)) 82 wc w.heap.size (fun k_ => some k_ ≠ ((.slice none 0 0) : Value).ownBlock) u3 x3_1) ∧ Aside0 (Kd.R (Kd.int .i64) 3 wc w.heap.size (fun _ => True) (.slice none 0 0) ([] : List Int)) ∧ Aside0 (IsS108 w0 wc g s0_0 x1001_6 x1002_6) ∧ Aside0 (KeepBut w wc g none) ∧ Aside0 (Below w0.heap.size w0 wc))
    case first =>
     have H := HC7.out
     clear HC7
     by_cases c8 : t939 = 0
     ·rw [if_pos c8] at H
      have c8b0 : (t939 == 0) = true := beq_iff_eq.mpr c8
      have c8b1 : (t939 != 0) = false := bne_eq_false_iff_eq.mpr c8
      clear c8
      (first | rw [c8b0] | (simp only [i64_w, i32_w]; rw [c8b0]) | skip)
      have H' := Aside0.mk H
      clear H
      go_wp2
      go_meet
      case rel => exact ⟨_, (true), (x1001_1), (x1002_1), (by first | rfl | (simp; done) | (simp [*]; done)), H', ⟨by have := HK1.out; first | omega | exact Nat.le_refl _⟩, ⟨by (with_reducible repeat (first | apply Kd.S_alloc | apply Kd.S_drewN | apply Kd.S_drew)); exact Kd.S_mono HO_3.out (fun _ hk => (by simp [Value.ownBlock]))⟩, ⟨by first | exact Kd.R_nil _ _ _ _ _ | exact Kd.N_nil _ _ _ _ _ | exact Kd.V_nil _ _ _ _ _ | exact Kd.Q_nil _ _ _ _ _ | exact Kd.S_nil _ _ _ _ _⟩, ⟨(qi HI0)⟩, ⟨(qk HK)⟩, ⟨(qz HB)⟩⟩
     rw [if_neg c8] at H
     have c8b0 : (t939 == 0) = false := beq_eq_false_iff_ne.mpr c8
     have c8b1 : (t939 != 0) = true := bne_iff_ne.mpr c8
     (first | rw [c8b0] | (simp only [i64_w, i32_w]; rw [c8b0]) | skip)
     replace H := Option.bind_eq_some_iff.mp H
     obtain ⟨⟨t945, t946, t947⟩, A90, H⟩ := H
     replace H : (spec_l4Cur_fates.j1 k1 x3_1 t939 x5_1 ([] : List Int) (decide (t945 > t939)) s0_0 t946 t947) = some (r1, r2, r3) := H
     have A9 := Aside0.mk A90
     clear A90
     have H' := Aside0.mk H
     clear H
     go_wp2_with (first | (go_at_call 72; (with_reducible refine (spec_l4Cur_pick.calls g s0_0 x1001_1 x1002_1 4 t945 t946 t947 w0 _ ?side1 ?side2 A9.out).mono ?_); (case side1 => exact qi HI0); (case side2 => exact qz HB); rintro e w10 ⟨rfl, hi, hb, hk⟩; replace HO_3 := Aside0.mk (Kd.S_mono (Kd.S_keep (IsS108.apartS (show IsS108 w0 _ g s0_0 x1001_1 x1002_1 from qi HI0) (by (with_reducible repeat (first | apply Kd.S_alloc | apply Kd.S_drewN | apply Kd.S_drew)); exact HO_3.out) (by decide)) hk (fun _ h => h.2)) (fun _ h => h.1)); replace HK := Aside0.mk (KeepBut.trans (qk HK) hk (.inl rfl)); replace HB := Aside0.mk (hb); replace HI0 := Aside0.mk (hi); clear hb hk hi))
     go_meet
     case rel => exact ⟨_, (decide (t945 > t939)), (t946), (t947), (by first | rfl | (simp; done) | (simp [*]; done)), H', ⟨by have := HK1.out; first | omega | exact Nat.le_refl _⟩, ⟨by (with_reducible repeat (first | apply Kd.S_alloc | apply Kd.S_drewN | apply Kd.S_drew)); exact Kd.S_mono HO_3.out (fun _ hk => (by simp [Value.ownBlock]))⟩, ⟨by first | exact Kd.R_nil _ _ _ _ _ | exact Kd.N_nil _ _ _ _ _ | exact Kd.V_nil _ _ _ _ _ | exact Kd.Q_nil _ _ _ _ _ | exact Kd.S_nil _ _ _ _ _⟩, ⟨(qi HI0)⟩, ⟨(qk HK)⟩, ⟨(qz HB)⟩⟩
    case rest =>
     clear HC7
     try clear p2; try clear c6; try clear c6b0; try clear c7; try clear c8; try clear c8b0; try clear c8b1; try clear c9; try clear p2
     obtain ⟨kq, x23_6, x1001_6, x1002_6, rfl, HA, HJ6, HO_3, HO_6, HI0, HK, HB⟩ := hcut
     cases kq with
     | zero => exact absurd HA.out (by simp [spec_l4Cur_fates.j1])
     | succ kj6 =>
      have H := HA.out
      clear HA
      simp only [spec_l4Cur_fates.j1] at H
      have HC11 := Aside0.mk H
      clear H
      go_upto_if 23 with (fail)
      go_cut [6] (fun v6 wc => ∃ (kq : Nat) (x6_10 : List Int) (x1001_10 : Int) (x1002_10 : Int), Aside0 (spec_l4Cur_fates.j2 kq x3_1 t939 x5_1 x6_10 s0_0 x1001_10 x1002_10 = some (r1, r2, r3)) ∧ Aside0 (kq ≤ kj6) ∧ Aside0 (Kd.S (Kd.slice 3 (Kd.int .i64)) 82 wc w.heap.size (fun k_ => some k_ ≠ (v6 : Value).ownBlock) u3 x3_1) ∧ Aside0 (Kd.R (Kd.int .i64) 3 wc w.heap.size (fun _ => True) v6 x6_10) ∧ Aside0 (IsS108 w0 wc g s0_0 x1001_10 x1002_10) ∧ Aside0 (KeepBut w wc g none) ∧ Aside0 (Below w0.heap.size w0 wc))
      case first =>
       have H := HC11.out
       clear HC11
       by_cases c12 : x23_6 = true
       ·subst c12
        have H1 : ((spec_l4Cur_pick.f s0_0 x1001_6 x1002_6 4).bind fun bt948 => (if ([] : List Int).length < 17592186044416 then (spec_l4Cur_fates.j2 kj6 x3_1 t939 x5_1 (([] : List Int) ++ [wrap64 (1 + bt948.1)]) s0_0 bt948.2.1 bt948.2.2) else (none))) = some (r1, r2, r3) := by rw [if_pos rfl] at H; exact H
        clear H; have H := H1; clear H1
        replace H := Option.bind_eq_some_iff.mp H
        obtain ⟨⟨t948, t949, t950⟩, A130, H⟩ := H
        replace H : (if ([] : List Int).length < 17592186044416 then (spec_l4Cur_fates.j2 kj6 x3_1 t939 x5_1 (([] : List Int) ++ [wrap64 (1 + t948)]) s0_0 t949 t950) else (none)) = some (r1, r2, r3) := H
        have A13 := Aside0.mk A130
        clear A130
        by_cases c14 : ([] : List Int).length < 17592186044416
        ·rw [if_pos c14] at H
         have LMc14 := Aside0.mk c14
         clear c14
         obtain ⟨y951, hy951⟩ : ∃ y_ : List Int, y_ = (([] : List Int) ++ [wrap64 (1 + t948)]) := ⟨_, rfl⟩
         replace H : (spec_l4Cur_fates.j2 kj6 x3_1 t939 x5_1 y951 s0_0 t949 t950) = some (r1, r2, r3) := by first | (rw [hy951]; with_reducible exact H) | (have H2_ := (Option.bind_some _ _).symm.trans H; rw [hy951]; with_reducible exact H2_) | (have H2_ := (Option.bind_some _ _).symm.trans H; with_reducible exact H2_) | with_reducible exact H | (rw [hy951]; exact H) | exact H
         have Ny951 := Aside0.mk hy951
         clear hy951
         have H' := Aside0.mk H
         clear H
         go_wp2_with (first | ((with_reducible refine gate_callee (f := 72) rfl ?_); refine goesLA (some 26) rfl Try.func72 #[.pointer (some ⟨g, 0, none⟩), .int .i64 4] ?_; (with_reducible refine (spec_l4Cur_pick.calls g s0_0 x1001_6 x1002_6 4 t948 t949 t950 w0 _ ?side1 ?side2 A13.out).mono ?_); (case side1 => exact qi HI0); (case side2 => exact qz HB); rintro e w15 ⟨rfl, hi, hb, hk⟩; refine ⟨_, rfl, ?_⟩; replace HO_3 := Aside0.mk (Kd.S_mono (Kd.S_keep (IsS108.apartS (show IsS108 w0 _ g s0_0 x1001_6 x1002_6 from qi HI0) (by (with_reducible repeat (first | apply Kd.S_alloc | apply Kd.S_drewN | apply Kd.S_drew)); exact HO_3.out) (by decide)) hk (fun _ h => h.2)) (fun _ h => h.1)); replace HO_6 := Aside0.mk (Kd.R_mono (Kd.R_keep (IsS108.apart (show IsS108 w0 _ g s0_0 x1001_6 x1002_6 from qi HI0) (qr HO_6) (by decide)) hk (fun _ h => h.2)) (fun _ h => h.1)); replace HK := Aside0.mk (KeepBut.trans (qk HK) hk (.inl rfl)); replace HB := Aside0.mk (hb); replace HI0 := Aside0.mk (hi); clear hb hk hi) | ((with_reducible refine gate_builtin (b := .append) (xs := #[.tmp 24, .tmp 28]) rfl ?_); at_builtin; refine Kd.R_append (Kd.int .i64) w.heap.size rfl (.tmp 24) (.tmp 28) 82 3 (.int .i64 0) 8 rfl Try.underlying82 info3 rfl (by decide) (by omega) (.slice none 0 0) ([] : List Int) (wrap64 (1 + t948)) [.int .i64 (wrap64 (1 + t948))] (fun _ => True) (fun _ => False) rfl rfl ?aP (fun _ hk => hk.elim) ?aF ?aO (Below.refl _ _) ?aS ?aL ?_; (case aP => exact rfl); (case aF => exact (fun _ _ => trivial)); (case aO => exact (qr HO_6)); (case aS => exact (keep_size (w := w) (g := g) (row := none) (qk HK))); (case aL => have := LMc14.out; omega); intro v952 w16 ho hb hg hat; rw [← Ny951.out] at ho; replace HO_3 := Aside0.mk (Kd.S_after (ok := (fun _ => True)) (by (with_reducible repeat (first | apply Kd.S_alloc | apply Kd.S_drewN | apply Kd.S_drew)); exact Kd.S_mono HO_3.out (fun _ hk => ⟨trivial, hk⟩)) hg hat); replace HI0 := Aside0.mk (IsS108.grown (qi HI0) hg (IsS108.own_ne HI0.out HO_6.out (by decide))); replace HB := Aside0.mk (below_weaken (qz HB) HL.out hb); replace HK := Aside0.mk (KeepBut.trans (qk HK) (KeepBut.of_grown hg g) (Kd.R_base2 HO_6.out)); have HO953 := Aside0.mk (ho); clear HO_6; clear ho hb hg hat))
         go_meet
         case rel => exact ⟨_, (y951), (t949), (t950), H', ⟨by have := HK1.out; have := HJ6.out; first | omega | exact Nat.le_refl _⟩, ⟨by (with_reducible repeat (first | apply Kd.S_alloc | apply Kd.S_drewN | apply Kd.S_drew)); exact Kd.S_mono HO_3.out (fun _ hk => hk.2)⟩, ⟨by (with_reducible repeat (first | apply Kd.R_alloc | apply Kd.R_drewN | apply Kd.R_drew)); exact HO953.out⟩, ⟨(qi HI0)⟩, ⟨(qk HK)⟩, ⟨(qz HB)⟩⟩
        rw [if_neg c14] at H
        exact absurd H (by simp)
       replace c12 := Bool.eq_false_iff.mpr c12
       subst c12
       have H1 : (spec_l4Cur_fates.j2 kj6 x3_1 t939 x5_1 ([] : List Int) s0_0 x1001_6 x1002_6) = some (r1, r2, r3) := by rw [if_neg (show ¬ (false = true) by decide)] at H; exact H
       clear H; have H := H1; clear H1
       have H' := Aside0.mk H
       clear H
       go_wp2
       go_meet
       case rel => exact ⟨_, (([] : List Int)), (x1001_6), (x1002_6), H', ⟨by have := HK1.out; have := HJ6.out; first | omega | exact Nat.le_refl _⟩, ⟨by (with_reducible repeat (first | apply Kd.S_alloc | apply Kd.S_drewN | apply Kd.S_drew)); exact HO_3.out⟩, ⟨by (with_reducible repeat (first | apply Kd.R_alloc | apply Kd.R_drewN | apply Kd.R_drew)); exact HO_6.out⟩, ⟨(qi HI0)⟩, ⟨(qk HK)⟩, ⟨(qz HB)⟩⟩
      case rest =>
       clear HC11
       try clear c1; try clear p2; try clear c6; try clear c6b0; try clear p6; try clear c7; try clear c8; try clear c8b0; try clear c8b1; try clear c9; try clear c12; try clear c14; try clear p2
       obtain ⟨kq, x6_10, x1001_10, x1002_10, HA, HJ10, HO_3, HO_6, HI0, HK, HB⟩ := hcut
       cases kq with
       | zero => exact absurd HA.out (by simp [spec_l4Cur_fates.j2])
       | succ kj10 =>
        have H := HA.out
        clear HA
        simp only [spec_l4Cur_fates.j2] at H
        have H' := Aside0.mk H
        clear H
        go_wp2
        go_loopg [6, 7] kj10 (fun kq v6 v7 w' => ∃ (x6_4 : List Int) (x7_4 : Int) (x1001_4 : Int) (x1002_4 : Int), v7 = .int .i64 x7_4 ∧ Aside0 (spec_l4Cur_fates.l1 kq x3_1 t939 x5_1 x6_4 x7_4 s0_0 x1001_4 x1002_4 = some (r1, r2, r3)) ∧ Aside0 (kq ≤ kj10) ∧ Aside0 (Kd.S (Kd.slice 3 (Kd.int .i64)) 82 w' w.heap.size (fun k_ => some k_ ≠ (v6 : Value).ownBlock) u3 x3_1) ∧ Aside0 (Kd.R (Kd.int .i64) 3 w' w.heap.size (fun _ => True) v6 x6_4) ∧ Aside0 (IsS108 w0 w' g s0_0 x1001_4 x1002_4) ∧ Aside0 (KeepBut w w' g none) ∧ Aside0 (Below w0.heap.size w0 w'))
        case atStart => exact ⟨(x6_10), (0), (x1001_10), (x1002_10), (by first | rfl | (simp; done) | (simp [*]; done)), H', ⟨Nat.le_refl _⟩, ⟨by (with_reducible repeat (first | apply Kd.S_alloc | apply Kd.S_drewN | apply Kd.S_drew)); exact HO_3.out⟩, ⟨by (with_reducible repeat (first | apply Kd.R_alloc | apply Kd.R_drewN | apply Kd.R_drew)); exact HO_6.out⟩, ⟨(qi HI0)⟩, ⟨(qk HK)⟩, ⟨(qz HB)⟩⟩
        case round =>
         clear H'
         try clear c1; try clear p2; try clear c6; try clear c6b0; try clear p6; try clear c7; try clear c8; try clear c8b0; try clear c8b1; try clear c9; try clear c12; try clear c14; try clear p2; try clear p6
         obtain ⟨x6_4, x7_4, x1001_4, x1002_4, rfl, HA, HK4, HO_3, HO_6, HI0, HK, HB⟩ := hrel
         cases gk with
         | zero => exact absurd HA.out (by simp [spec_l4Cur_fates.l1])
         | succ k4 =>
          have H := HA.out
          clear HA
          simp only [spec_l4Cur_fates.l1] at H
          by_cases c17 : x7_4 < 5
          ·rw [if_pos c17] at H
           have c17b0 : decide (x7_4 < 5) = true := decide_eq_true c17
           clear c17
           replace H := Option.bind_eq_some_iff.mp H
           obtain ⟨⟨t954, t955, t956⟩, A180, H⟩ := H
           replace H : (if t954 = 0 then ((spec_l4Cur_pick.f s0_0 t955 t956 14).bind fun bt957 => (if x6_4.length < 17592186044416 then (spec_l4Cur_fates.l1 k4 x3_1 t939 x5_1 (x6_4 ++ [wrap64 (1 + bt957.1)]) (wrap64 (x7_4 + 1)) s0_0 bt957.2.1 bt957.2.2) else (none))) else (if x3_1.length < 5864062014805 then (spec_l4Cur_fates.l0 k4 (x3_1 ++ [x6_4]) t939 (wrap64 (x5_1 - 1)) s0_0 t955 t956) else (none))) = some (r1, r2, r3) := H
           have A18 := Aside0.mk A180
           clear A180
           by_cases c19 : t954 = 0
           ·rw [if_pos c19] at H
            have c19b0 : (t954 == 0) = true := beq_iff_eq.mpr c19
            have c19b1 : (t954 != 0) = false := bne_eq_false_iff_eq.mpr c19
            clear c19
            replace H := Option.bind_eq_some_iff.mp H
            obtain ⟨⟨t957, t958, t959⟩, A200, H⟩ := H
            replace H : (if x6_4.length < 17592186044416 then (spec_l4Cur_fates.l1 k4 x3_1 t939 x5_1 (x6_4 ++ [wrap64 (1 + t957)]) (wrap64 (x7_4 + 1)) s0_0 t958 t959) else (none)) = some (r1, r2, r3) := H
            have A20 := Aside0.mk A200
            clear A200
            by_cases c21 : x6_4.length < 17592186044416
            ·rw [if_pos c21] at H
             have LMc21 := Aside0.mk c21
             clear c21
             obtain ⟨y960, hy960⟩ : ∃ y_ : List Int, y_ = (x6_4 ++ [wrap64 (1 + t957)]) := ⟨_, rfl⟩
             replace H : (spec_l4Cur_fates.l1 k4 x3_1 t939 x5_1 y960 (wrap64 (x7_4 + 1)) s0_0 t958 t959) = some (r1, r2, r3) := by first | (rw [hy960]; with_reducible exact H) | (have H2_ := (Option.bind_some _ _).symm.trans H; rw [hy960]; with_reducible exact H2_) | (have H2_ := (Option.bind_some _ _).symm.trans H; with_reducible exact H2_) | with_reducible exact H | (rw [hy960]; exact H) | exact H
             have Ny960 := Aside0.mk hy960
             clear hy960
             have H' := Aside0.mk H
             clear H
             go_wp2_with (first | (go_at_call 72; (with_reducible refine (spec_l4Cur_pick.calls g s0_0 x1001_4 x1002_4 6 t954 t955 t956 w0 _ ?side1 ?side2 A18.out).mono ?_); (case side1 => exact qi HI0); (case side2 => exact qz HB); rintro e w22 ⟨rfl, hi, hb, hk⟩; replace HO_3 := Aside0.mk (Kd.S_mono (Kd.S_keep (IsS108.apartS (show IsS108 w0 _ g s0_0 x1001_4 x1002_4 from qi HI0) (by (with_reducible repeat (first | apply Kd.S_alloc | apply Kd.S_drewN | apply Kd.S_drew)); exact HO_3.out) (by decide)) hk (fun _ h => h.2)) (fun _ h => h.1)); replace HO_6 := Aside0.mk (Kd.R_mono (Kd.R_keep (IsS108.apart (show IsS108 w0 _ g s0_0 x1001_4 x1002_4 from qi HI0) (qr HO_6) (by decide)) hk (fun _ h => h.2)) (fun _ h => h.1)); replace HK := Aside0.mk (KeepBut.trans (qk HK) hk (.inl rfl)); replace HB := Aside0.mk (hb); replace HI0 := Aside0.mk (hi); clear hb hk hi) | ((with_reducible refine gate_callee (f := 72) rfl ?_); refine goesLA (some 41) rfl Try.func72 #[.pointer (some ⟨g, 0, none⟩), .int .i64 14] ?_; (with_reducible refine (spec_l4Cur_pick.calls g s0_0 t955 t956 14 t957 t958 t959 w0 _ ?side1 ?side2 A20.out).mono ?_); (case side1 => exact qi HI0); (case side2 => exact qz HB); rintro e w23 ⟨rfl, hi, hb, hk⟩; refine ⟨_, rfl, ?_⟩; replace HO_3 := Aside0.mk (Kd.S_mono (Kd.S_keep (IsS108.apartS (show IsS108 w0 _ g s0_0 t955 t956 from qi HI0) (by (with_reducible repeat (first | apply Kd.S_alloc | apply Kd.S_drewN | apply Kd.S_drew)); exact HO_3.out) (by decide)) hk (fun _ h => h.2)) (fun _ h => h.1)); replace HO_6 := Aside0.mk (Kd.R_mono (Kd.R_keep (IsS108.apart (show IsS108 w0 _ g s0_0 t955 t956 from qi HI0) (qr HO_6) (by decide)) hk (fun _ h => h.2)) (fun _ h => h.1)); replace HK := Aside0.mk (KeepBut.trans (qk HK) hk (.inl rfl)); replace HB := Aside0.mk (hb); replace HI0 := Aside0.mk (hi); clear hb hk hi) | ((with_reducible refine gate_builtin (b := .append) (xs := #[.tmp 39, .tmp 43]) rfl ?_); at_builtin; refine Kd.R_append (Kd.int .i64) w.heap.size rfl (.tmp 39) (.tmp 43) 82 3 (.int .i64 0) 8 rfl Try.underlying82 info3 rfl (by decide) (by omega) u6 x6_4 (wrap64 (1 + t957)) [.int .i64 (wrap64 (1 + t957))] (fun _ => True) (fun _ => False) rfl rfl ?aP (fun _ hk => hk.elim) ?aF ?aO (Below.refl _ _) ?aS ?aL ?_; (case aP => exact rfl); (case aF => exact (fun _ _ => trivial)); (case aO => exact (qr HO_6)); (case aS => exact (keep_size (w := w) (g := g) (row := none) (qk HK))); (case aL => have := LMc21.out; omega); intro v961 w24 ho hb hg hat; rw [← Ny960.out] at ho; replace HO_3 := Aside0.mk (Kd.S_after (ok := (fun _ => True)) (by (with_reducible repeat (first | apply Kd.S_alloc | apply Kd.S_drewN | apply Kd.S_drew)); exact Kd.S_mono HO_3.out (fun _ hk => ⟨trivial, hk⟩)) hg hat); replace HI0 := Aside0.mk (IsS108.grown (qi HI0) hg (IsS108.own_ne HI0.out HO_6.out (by decide))); replace HB := Aside0.mk (below_weaken (qz HB) HL.out hb); replace HK := Aside0.mk (KeepBut.trans (qk HK) (KeepBut.of_grown hg g) (Kd.R_base2 HO_6.out)); have HO962 := Aside0.mk (ho); clear HO_6; clear ho hb hg hat))
             go_roundg k4
             case measure => have := HK1.out; have := HJ6.out; have := HJ10.out; have := HK4.out; omega
             case rel => exact ⟨(y960), (wrap64 (x7_4 + 1)), (t958), (t959), (by first | rfl | (simp; done) | (simp [*]; done)), H', ⟨by have := HK1.out; have := HJ6.out; have := HJ10.out; have := HK4.out; omega⟩, ⟨by (with_reducible repeat (first | apply Kd.S_alloc | apply Kd.S_drewN | apply Kd.S_drew)); exact Kd.S_mono HO_3.out (fun _ hk => hk.2)⟩, ⟨by (with_reducible repeat (first | apply Kd.R_alloc | apply Kd.R_drewN | apply Kd.R_drew)); exact HO962.out⟩, ⟨(qi HI0)⟩, ⟨(qk HK)⟩, ⟨(qz HB)⟩⟩
            rw [if_neg c21] at H
            exact absurd H (by simp)
           rw [if_neg c19] at H
           have c19b0 : (t954 == 0) = false := beq_eq_false_iff_ne.mpr c19
           have c19b1 : (t954 != 0) = true := bne_iff_ne.mpr c19
           by_cases c25 : x3_1.length < 5864062014805
           ·rw [if_pos c25] at H
            have LMc25 := Aside0.mk c25
            clear c25
            obtain ⟨y963, hy963⟩ : ∃ y_ : List (List Int), y_ = (x3_1 ++ [x6_4]) := ⟨_, rfl⟩
            replace H : (spec_l4Cur_fates.l0 k4 y963 t939 (wrap64 (x5_1 - 1)) s0_0 t955 t956) = some (r1, r2, r3) := by first | (rw [hy963]; with_reducible exact H) | (have H2_ := (Option.bind_some _ _).symm.trans H; rw [hy963]; with_reducible exact H2_) | (have H2_ := (Option.bind_some _ _).symm.trans H; with_reducible exact H2_) | with_reducible exact H | (rw [hy963]; exact H) | exact H
            have Ny963 := Aside0.mk hy963
            clear hy963
            have H' := Aside0.mk H
            clear H
            go_wp2_with (first | (go_at_call 72; (with_reducible refine (spec_l4Cur_pick.calls g s0_0 x1001_4 x1002_4 6 t954 t955 t956 w0 _ ?side1 ?side2 A18.out).mono ?_); (case side1 => exact qi HI0); (case side2 => exact qz HB); rintro e w26 ⟨rfl, hi, hb, hk⟩; replace HO_3 := Aside0.mk (Kd.S_mono (Kd.S_keep (IsS108.apartS (show IsS108 w0 _ g s0_0 x1001_4 x1002_4 from qi HI0) (by (with_reducible repeat (first | apply Kd.S_alloc | apply Kd.S_drewN | apply Kd.S_drew)); exact HO_3.out) (by decide)) hk (fun _ h => h.2)) (fun _ h => h.1)); replace HO_6 := Aside0.mk (Kd.R_mono (Kd.R_keep (IsS108.apart (show IsS108 w0 _ g s0_0 x1001_4 x1002_4 from qi HI0) (qr HO_6) (by decide)) hk (fun _ h => h.2)) (fun _ h => h.1)); replace HK := Aside0.mk (KeepBut.trans (qk HK) hk (.inl rfl)); replace HB := Aside0.mk (hb); replace HI0 := Aside0.mk (hi); clear hb hk hi; obtain ⟨Ao28, co28, eo28⟩ := Kd.R_slice HO_6.out; subst eo28) | ((with_reducible refine gate_builtin (b := .append) (xs := #[.tmp 45, .tmp 47]) rfl ?_); at_builtin; refine Kd.S_append (Kd.slice 3 (Kd.int .i64)) w.heap.size rfl (.tmp 45) (.tmp 47) 65 82 (.slice none 0 0) 24 rfl Try.underlying65 info82 rfl (by decide) (by omega) u3 x3_1 x6_4 [.slice Ao28 x6_4.length co28] (fun _ => True) (fun k_ => some k_ = (.slice Ao28 x6_4.length co28 : Value).ownBlock) rfl rfl ?aP (fun k_ hk_ => ((Kd.R_mono (ok' := fun k_ => ((fun _ => True)) k_ ∧ some k_ ≠ (u3 : Value).ownBlock) (Kd.R_apart' (HO_6.out) (Kd.S_typed HO_3.out) (by decide)) (fun k_ hk => ⟨trivial, hk.2⟩))).1 k_ hk_.symm) ?aF ?aO (Below.refl _ _) ?aS ?aL ?_; (case aP => exact Kd.M_row (Kd.R_mono (Kd.R_tight rfl (Kd.R_mono (ok' := fun k_ => ((fun _ => True)) k_ ∧ some k_ ≠ (u3 : Value).ownBlock) (Kd.R_apart' (HO_6.out) (Kd.S_typed HO_3.out) (by decide)) (fun k_ hk => ⟨trivial, hk.2⟩))) (fun _ h_ => h_))); (case aF => exact (fun _ _ => trivial)); (case aO => exact (by (with_reducible repeat (first | apply Kd.S_alloc | apply Kd.S_drewN | apply Kd.S_drew)); exact Kd.S_mono HO_3.out (fun k_ hk => ⟨trivial, fun e_ => hk e_⟩))); (case aS => exact (keep_size (w := w) (g := g) (row := none) (qk HK))); (case aL => have := LMc25.out; omega); intro v964 w27 ho hb hg hat; rw [← Ny963.out] at ho; replace HI0 := Aside0.mk (IsS108.grown (qi HI0) hg (IsS108.own_neS HI0.out HO_3.out (by decide))); replace HB := Aside0.mk (below_weaken (qz HB) HL.out hb); replace HK := Aside0.mk (KeepBut.trans (qk HK) (KeepBut.of_grown hg g) (Kd.S_base2 HO_3.out)); have HO965 := Aside0.mk (ho); clear HO_3 HO_6; clear ho hb hg hat))
            go_roundg k4
            case measure => have := HK1.out; have := HJ6.out; have := HJ10.out; have := HK4.out; omega
            case rel => exact ⟨(y963), (wrap64 (x5_1 - 1)), (t955), (t956), (by first | rfl | (simp; done) | (simp [*]; done)), H', ⟨by have := HK1.out; have := HJ6.out; have := HJ10.out; have := HK4.out; omega⟩, ⟨by (with_reducible repeat (first | apply Kd.S_alloc | apply Kd.S_drewN | apply Kd.S_drew)); exact HO965.out⟩, ⟨(qi HI0)⟩, ⟨(qk HK)⟩, ⟨(qz HB)⟩⟩
           rw [if_neg c25] at H
           exact absurd H (by simp)
          rw [if_neg c17] at H
          have c17b0 : decide (x7_4 < 5) = false := decide_eq_false c17
          clear c17
          by_cases c29 : x3_1.length < 5864062014805
          ·rw [if_pos c29] at H
           have LMc29 := Aside0.mk c29
           clear c29
           obtain ⟨y966, hy966⟩ : ∃ y_ : List (List Int), y_ = (x3_1 ++ [x6_4]) := ⟨_, rfl⟩
           replace H : (spec_l4Cur_fates.l0 k4 y966 t939 (wrap64 (x5_1 - 1)) s0_0 x1001_4 x1002_4) = some (r1, r2, r3) := by first | (rw [hy966]; with_reducible exact H) | (have H2_ := (Option.bind_some _ _).symm.trans H; rw [hy966]; with_reducible exact H2_) | (have H2_ := (Option.bind_some _ _).symm.trans H; with_reducible exact H2_) | with_reducible exact H | (rw [hy966]; exact H) | exact H
           have Ny966 := Aside0.mk hy966
           clear hy966
           have H' := Aside0.mk H
           clear H
           obtain ⟨Ao31, co31, eo31⟩ := Kd.R_slice HO_6.out
           subst eo31
           go_wp2_with (first | ((with_reducible refine gate_builtin (b := .append) (xs := #[.tmp 45, .tmp 47]) rfl ?_); at_builtin; refine Kd.S_append (Kd.slice 3 (Kd.int .i64)) w.heap.size rfl (.tmp 45) (.tmp 47) 65 82 (.slice none 0 0) 24 rfl Try.underlying65 info82 rfl (by decide) (by omega) u3 x3_1 x6_4 [.slice Ao31 x6_4.length co31] (fun _ => True) (fun k_ => some k_ = (.slice Ao31 x6_4.length co31 : Value).ownBlock) rfl rfl ?aP (fun k_ hk_ => ((Kd.R_mono (ok' := fun k_ => ((fun _ => True)) k_ ∧ some k_ ≠ (u3 : Value).ownBlock) (Kd.R_apart' (HO_6.out) (Kd.S_typed HO_3.out) (by decide)) (fun k_ hk => ⟨trivial, hk.2⟩))).1 k_ hk_.symm) ?aF ?aO (Below.refl _ _) ?aS ?aL ?_; (case aP => exact Kd.M_row (Kd.R_mono (Kd.R_tight rfl (Kd.R_mono (ok' := fun k_ => ((fun _ => True)) k_ ∧ some k_ ≠ (u3 : Value).ownBlock) (Kd.R_apart' (HO_6.out) (Kd.S_typed HO_3.out) (by decide)) (fun k_ hk => ⟨trivial, hk.2⟩))) (fun _ h_ => h_))); (case aF => exact (fun _ _ => trivial)); (case aO => exact (by (with_reducible repeat (first | apply Kd.S_alloc | apply Kd.S_drewN | apply Kd.S_drew)); exact Kd.S_mono HO_3.out (fun k_ hk => ⟨trivial, fun e_ => hk e_⟩))); (case aS => exact (keep_size (w := w) (g := g) (row := none) (qk HK))); (case aL => have := LMc29.out; omega); intro v967 w30 ho hb hg hat; rw [← Ny966.out] at ho; replace HI0 := Aside0.mk (IsS108.grown (qi HI0) hg (IsS108.own_neS HI0.out HO_3.out (by decide))); replace HB := Aside0.mk (below_weaken (qz HB) HL.out hb); replace HK := Aside0.mk (KeepBut.trans (qk HK) (KeepBut.of_grown hg g) (Kd.S_base2 HO_3.out)); have HO968 := Aside0.mk (ho); clear HO_3 HO_6; clear ho hb hg hat))
           go_roundg k4
           case measure => have := HK1.out; have := HJ6.out; have := HJ10.out; have := HK4.out; omega
           case rel => exact ⟨(y966), (wrap64 (x5_1 - 1)), (x1001_4), (x1002_4), (by first | rfl | (simp; done) | (simp [*]; done)), H', ⟨by have := HK1.out; have := HJ6.out; have := HJ10.out; have := HK4.out; omega⟩, ⟨by (with_reducible repeat (first | apply Kd.S_alloc | apply Kd.S_drewN | apply Kd.S_drew)); exact HO968.out⟩, ⟨(qi HI0)⟩, ⟨(qk HK)⟩, ⟨(qz HB)⟩⟩
          rw [if_neg c29] at H
          exact absurd H (by simp)
   rw [if_neg c6] at H
   have c6b0 : decide (0 < x5_1) = false := decide_eq_false c6
   clear c6
   simp only [Option.some.injEq, Prod.mk.injEq] at H
   obtain ⟨rfl, rfl, rfl⟩ := H
   go_wp2
   go_ret
   exact ⟨_, by first | rfl | (simp [errW_none, errW_some] <;> rfl) | (simp [*, errW_none, errW_some] <;> rfl), by (with_reducible repeat (first | apply Kd.S_alloc | apply Kd.S_drewN | apply Kd.S_drew)); exact HO_3.out, (qi HI0), (qz HB), (qk HK)⟩
def spec_Drawn.f (k : Nat) (l0 : List Int) : Option (Int × Int × Int × (List (S84)) × (List (List Int)) × Int) := (spec_l4Cur_rules.f l0 0 0).bind fun bt971 => ((spec_l4Cur_pick.f l0 bt971.2.2.2.1 bt971.2.2.2.2 90).bind fun bt977 => ((spec_l4Cur_sets.f k l0 bt977.2.1 bt977.2.2 (wrap64 (1 + bt977.1))).bind fun bt980 => ((spec_l4Cur_fates.f k l0 bt980.2.1 bt980.2.2).bind fun bt985 => (some (bt971.1, bt971.2.1, bt971.2.2.1, bt980.1, bt985.1, wrap64 (1 + bt977.1))))))
def spec_Drawn.T5 : Bool × List (List Nat × List Nat) := (true, [([], []), ([], []), ([], []), ([2], [2]), ([], []), ([0, 3, 0], [0]), ([1, 5, 0, 1, 5], [1]), ([3, 6, 0, 1, 2, 3, 5, 6], [3]), ([4, 7, 0, 1, 2, 3, 4, 5, 6, 7], [4])])
def spec_Drawn.B5 : List Nat := [0, 0, 0, 4, 0, 13, 47, 111, 255]
theorem spec_Drawn.tab5 : rtab .any (opsOf Try.f46 5) = spec_Drawn.T5 := by kernel_rfl
theorem spec_Drawn.bits5 : waitsOk spec_Drawn.T5.2 spec_Drawn.B5 = true := by kernel_rfl
set_option maxHeartbeats 8000000 in
set_option maxRecDepth 100000 in
theorem spec_Drawn.calls (k : Nat) (A0 : Option Addr) (c0 : Nat) (l0 : List Int) (r1 : Int) (r2 : Int) (r3 : Int) (r4 : List (S84)) (r5 : List (List Int)) (r6 : Int) (w : World) (hr0 : Kd.C (Kd.int .u8) w A0 l0.length l0) (hc0 : l0.length ≤ c0) (h : spec_Drawn.f k l0 = some (r1, r2, r3, r4, r5, r6)) :
  Calls Try.prog 46 #[.slice A0 l0.length c0] w fun e w' => ∃ v3_ v4_ : Value, e = .returned (.tuple #[.agg #[.int .i64 r1, .int .i64 r2, .int .i64 r3], v3_, v4_, .int .i64 r6]) ∧ Kd.R k84 84 w' w.heap.size (fun _ => True) v3_ r4 ∧ Kd.S (Kd.slice 3 (Kd.int .i64)) 82 w' w.heap.size (fun _ => True) v4_ r5 ∧ Below w.heap.size w w' := by
 have hu34 := Try.underlying34
 have hu108 := Try.underlying108
 have HR0 := Aside0.mk hr0
 have HC0 := Aside0.mk hc0
 clear hr0 hc0
 have HB := Aside0.mk (Below.refl w.heap.size w)
 have H : ((spec_l4Cur_rules.f l0 0 0).bind fun bt971 => ((spec_l4Cur_pick.f l0 bt971.2.2.2.1 bt971.2.2.2.2 90).bind fun bt977 => ((spec_l4Cur_sets.f k l0 bt977.2.1 bt977.2.2 (wrap64 (1 + bt977.1))).bind fun bt980 => ((spec_l4Cur_fates.f k l0 bt980.2.1 bt980.2.2).bind fun bt985 => (some (bt971.1, bt971.2.1, bt971.2.2.1, bt980.1, bt985.1, wrap64 (1 + bt977.1))))))) = some (r1, r2, r3, r4, r5, r6) := h
 clear h
 replace H := Option.bind_eq_some_iff.mp H
 obtain ⟨⟨t971, t972, t973, t974, t975⟩, A20, H⟩ := H
 replace H : ((spec_l4Cur_pick.f l0 t974 t975 90).bind fun bt977 => ((spec_l4Cur_sets.f k l0 bt977.2.1 bt977.2.2 (wrap64 (1 + bt977.1))).bind fun bt980 => ((spec_l4Cur_fates.f k l0 bt980.2.1 bt980.2.2).bind fun bt985 => (some (t971, t972, t973, bt980.1, bt985.1, wrap64 (1 + bt977.1)))))) = some (r1, r2, r3, r4, r5, r6) := H
 have A2 := Aside0.mk A20
 clear A20
 replace H := Option.bind_eq_some_iff.mp H
 obtain ⟨⟨t977, t978, t979⟩, A30, H⟩ := H
 replace H : ((spec_l4Cur_sets.f k l0 t978 t979 (wrap64 (1 + t977))).bind fun bt980 => ((spec_l4Cur_fates.f k l0 bt980.2.1 bt980.2.2).bind fun bt985 => (some (t971, t972, t973, bt980.1, bt985.1, wrap64 (1 + t977))))) = some (r1, r2, r3, r4, r5, r6) := H
 have A3 := Aside0.mk A30
 clear A30
 replace H := Option.bind_eq_some_iff.mp H
 obtain ⟨⟨t980, t983, t984⟩, A40, H⟩ := H
 replace H : ((spec_l4Cur_fates.f k l0 t983 t984).bind fun bt985 => (some (t971, t972, t973, t980, bt985.1, wrap64 (1 + t977)))) = some (r1, r2, r3, r4, r5, r6) := H
 have A4 := Aside0.mk A40
 clear A40
 replace H := Option.bind_eq_some_iff.mp H
 obtain ⟨⟨t985, t988, t989⟩, A50, H⟩ := H
 replace H : (some (t971, t972, t973, t980, t985, wrap64 (1 + t977))) = some (r1, r2, r3, r4, r5, r6) := H
 have A5 := Aside0.mk A50
 clear A50
 simp only [Option.some.injEq, Prod.mk.injEq] at H
 obtain ⟨rfl, rfl, rfl, rfl, rfl, rfl⟩ := H
 go_enter Try.func46, Try.ntmps46
 try go_wp2_with (first | ((with_reducible refine gate_dst (N := 2) rfl ?_); refine boxA #[.int .i64 0, .int .i64 0, .int .i64 0] 34 ?_; intro gb969 hg w6 hbox hb; have BK969 := Aside0.mk (hbox); have GW969 := nge HB hg; have GE969 := nge HB hg; replace HB := bst HB hb; clear hb hbox hg) | ((with_reducible refine gate_dst (N := 12) rfl ?_); refine boxA #[.slice A0 l0.length c0, .int .i64 0, .int .u64 0] 108 ?_; intro gb970 hg w7 hbox hb; have GW970 := nge HB hg; have GE970 := nge HB hg; have NB969_970 := nlt BK969 hg; have NB970_969 := ngt BK969 hg; replace BK969 := bkb BK969 hb; have HI970 := Aside0.mk ((show IsS108 w w7 gb970 l0 0 0 from ⟨_, _, hbox, (by rw [hg]; exact (below_size (qs HB)) : w.heap.size ≤ gb970), HR0.out⟩)); replace HB := bst HB hb; clear hb hbox hg) | ((with_reducible refine gate_callee (f := 91) rfl ?_); refine goesLA (some 14) rfl Try.func91 #[.pointer (some ⟨gb970, 0, none⟩)] ?_; (with_reducible refine (spec_l4Cur_rules.calls gb970 l0 0 0 t971 t972 t973 t974 t975 w _ ?side1 ?side2 A2.out).mono ?_); (case side1 => exact qi HI970); (case side2 => exact qz HB); rintro e w8 ⟨rfl, hi, hb, hk⟩; refine ⟨_, rfl, ?_⟩; replace BK969 := Aside0.mk (KeepBut.blk hk (g' := gb969) (o := .cells #[.int .i64 0, .int .i64 0, .int .i64 0] 34 (0, 0)) (qb BK969) NB969_970.out (by simp)); replace HB := Aside0.mk (hb); replace HI970 := Aside0.mk (hi); clear hb hk hi) | ((with_reducible refine gate_dst (N := 7) rfl ?_); refine boxA #[.int .i64 0, .int .i64 0, .int .i64 0] 34 ?_; intro gb976 hg w9 hbox hb; have BK976 := Aside0.mk (hbox); have GW976 := Aside0.mk ((by rw [hg]; exact (below_size (qz HB)) : w.heap.size ≤ gb976)); have GE976 := Aside0.mk ((by rw [hg]; exact (below_size (qz HB)) : w.heap.size ≤ gb976)); replace HB := Aside0.mk (below_step (qz HB) hb); have NB969_976 := nlt BK969 hg; have NB976_969 := ngt BK969 hg; replace BK969 := bkb BK969 hb; have NB970_976 := Aside0.mk ((by rw [hg]; exact Nat.ne_of_lt (IsS108.lt (show IsS108 w _ gb970 l0 t974 t975 from qi HI970)) : gb970 ≠ gb976)); have NB976_970 := Aside0.mk ((by rw [hg]; exact Nat.ne_of_gt (IsS108.lt (show IsS108 w _ gb970 l0 t974 t975 from qi HI970)) : gb976 ≠ gb970)); replace HI970 := Aside0.mk (IsS108.below (qi HI970) hb); clear hb hbox hg; have hnb10 := NB976_969.out; have hnc10 := NB969_976.out; have hnb11 := NB976_970.out; have hnc11 := NB970_976.out; have hcz12_0 := b0 BK976; have hcz12_1 := b1 BK976; have hcz12_2 := b2 BK976; have hfz12_0 := blk_frozen BK976.out 0; have hfz12_1 := blk_frozen BK976.out 1; have hfz12_2 := blk_frozen BK976.out 2) | ((with_reducible refine gate_callee (f := 72) rfl ?_); refine goesLA (some 16) rfl Try.func72 #[.pointer (some ⟨gb970, 0, none⟩), .int .i64 90] ?_; (with_reducible refine (spec_l4Cur_pick.calls gb970 l0 t974 t975 90 t977 t978 t979 w _ ?side1 ?side2 A3.out).mono ?_); (case side1 => exact qi HI970); (case side2 => exact qz HB); rintro e w13 ⟨rfl, hi, hb, hk⟩; refine ⟨_, rfl, ?_⟩; replace BK969 := Aside0.mk (KeepBut.blk hk (g' := gb969) (o := .cells #[.int .i64 0, .int .i64 0, .int .i64 0] 34 (0, 0)) (qB BK969) NB969_970.out (by simp)); replace BK976 := Aside0.mk (KeepBut.blk hk (g' := gb976) (o := .cells #[.int .i64 t971, .int .i64 t972, .int .i64 t973] 34 (0, 0)) (by (with_reducible repeat (first | refine blk_drewN ?_ _ | refine blk_drew ?_ | refine blk_alloc ?_ _)); refine blk_put (cs := #[.int .i64 t971, .int .i64 t972, .int .i64 0]) ?_ 2 _ rfl; (with_reducible repeat (first | refine blk_drewN ?_ _ | refine blk_drew ?_ | refine blk_alloc ?_ _)); refine blk_put (cs := #[.int .i64 t971, .int .i64 0, .int .i64 0]) ?_ 1 _ rfl; (with_reducible repeat (first | refine blk_drewN ?_ _ | refine blk_drew ?_ | refine blk_alloc ?_ _)); refine blk_put (cs := #[.int .i64 0, .int .i64 0, .int .i64 0]) ?_ 0 _ rfl; (with_reducible repeat (first | refine blk_drewN ?_ _ | refine blk_drew ?_ | refine blk_alloc ?_ _)); exact BK976.out) NB976_970.out (by simp)); replace HB := Aside0.mk (hb); replace HI970 := Aside0.mk (hi); clear hb hk hi) | ((with_reducible refine gate_callee (f := 92) rfl ?_); refine goesLA (some 20) rfl Try.func92 #[.pointer (some ⟨gb970, 0, none⟩), .int .i64 (wrap64 (1 + t977))] ?_; (with_reducible refine (spec_l4Cur_sets.calls k gb970 l0 t978 t979 (wrap64 (1 + t977)) t980 t983 t984 w _ ?side1 ?side2 A4.out).mono ?_); (case side1 => exact qi HI970); (case side2 => exact qz HB); rintro e w14 ⟨v981, rfl, ho0, hi, hb, hk⟩; refine ⟨_, rfl, ?_⟩; replace BK969 := Aside0.mk (KeepBut.blk hk (g' := gb969) (o := .cells #[.int .i64 0, .int .i64 0, .int .i64 0] 34 (0, 0)) (qb BK969) NB969_970.out (by simp)); replace BK976 := Aside0.mk (KeepBut.blk hk (g' := gb976) (o := .cells #[.int .i64 t971, .int .i64 t972, .int .i64 t973] 34 (0, 0)) (qb BK976) NB976_970.out (by simp)); have HO982 := Aside0.mk (Kd.R_lower ho0 (below_size (qz HB))); replace HB := Aside0.mk (hb); replace HI970 := Aside0.mk (hi); clear hb hk hi; (try clear ho0)))
 replace HO982 := Aside0.mk (Kd.R_drew HO982.out); replace BK969 := Aside0.mk (blk_drew BK969.out); replace BK976 := Aside0.mk (blk_drew BK976.out); replace HI970 := Aside0.mk (IsS108.drew HI970.out); replace HB := Aside0.mk (below_drew1 HB.out)
 refine start_ (n := 9) (S := fun w' => w'.cell? ⟨gb976, 0, none⟩ = some (.int .i64 t971) ∧ w'.cell? ⟨gb976, 1, none⟩ = some (.int .i64 t972) ∧ w'.cell? ⟨gb976, 2, none⟩ = some (.int .i64 t973)) (ds := []) #[false, false, false, false, false, false, false, false, false] (by kernel_rfl) rfl rfl ⟨bc BK976 0, bc BK976 1, bc BK976 2⟩ (fun hHeld => ?_); refine with_tabW spec_Drawn.tab5 spec_Drawn.bits5 (fun HT_ HW_ => ?_)
 generalize w14.drew = w15 at HO982 BK969 BK976 HI970 HB hHeld ⊢
 refine pureA 1 22 #[false, true, false, false, false, false, false, false, false] (any_of HT_.out (by kernel_rfl)) ?_
 refine pureA 2 23 #[false, true, true, false, false, false, false, false, false] (any_of HT_.out (by kernel_rfl)) ?_
 refine pureA 4 25 #[false, true, true, false, true, false, false, false, false] (any_of HT_.out (by kernel_rfl)) ?_
 refine takeA 0 21 #[true, true, true, false, true, false, false, false, false] (take_ofW HT_.out HW_.out (by kernel_rfl)) hHeld ?_
 refine one_ (i := 3) (N := some 24) #[true, true, true, true, true, false, false, false, false] rfl rfl (one_of HT_.out (by kernel_rfl)) (by decide) (fun K hK => ?_)
 refine goesA Try.func93 #[.pointer (some ⟨gb970, 0, none⟩)] ?_
 with_reducible refine (spec_l4Cur_fates.calls k gb970 l0 t983 t984 t985 t988 t989 w _ ?side1 ?side2 A5.out).mono ?_
 (case side1 => exact qi HI970)
 (case side2 => exact qz HB)
 rintro e w16 ⟨v986, rfl, ho0, hi, hb, hk⟩
 refine ⟨_, rfl, ?_⟩
 replace BK969 := Aside0.mk (KeepBut.blk hk (g' := gb969) (o := .cells #[.int .i64 0, .int .i64 0, .int .i64 0] 34 (0, 0)) (qb BK969) NB969_970.out (by simp)); replace BK976 := Aside0.mk (KeepBut.blk hk (g' := gb976) (o := .cells #[.int .i64 t971, .int .i64 t972, .int .i64 t973] 34 (0, 0)) (qb BK976) NB976_970.out (by simp)); replace HO982 := Aside0.mk (Kd.R_mono (Kd.R_keep (IsS108.apart (show IsS108 w _ gb970 l0 t983 t984 from qi HI970) (qr HO982) (by decide)) hk (fun _ h => h.2)) (fun _ h => h.1)); have HO987 := Aside0.mk (Kd.S_lower ho0 (below_size (qz HB))); replace HB := Aside0.mk (hb); replace HI970 := Aside0.mk (hi); clear hb hk hi; (try clear ho0)
 refine hK.out _ _ ⟨bc BK976 0, bc BK976 1, bc BK976 2⟩ (fun hHeld => ?_)
 clear hK K
 refine normP ?_
 refine one_ (i := 5) (N := none) #[true, true, true, true, true, true, false, false, false] rfl rfl (one_of HT_.out (by kernel_rfl)) (by decide) (fun K hK => ?_)
 have hs17 := b0 BK969
 have hfs17 := blk_frozen BK969.out 0
 have hns17_1 := NB976_969.out
 have hms17_1 := NB969_976.out
 have hs18 := b1 BK969
 have hfs18 := blk_frozen BK969.out 1
 have hns18_1 := NB976_969.out
 have hms18_1 := NB969_976.out
 have hs19 := b2 BK969
 have hfs19 := blk_frozen BK969.out 2
 have hns19_1 := NB976_969.out
 have hms19_1 := NB969_976.out
 refine skip_ (w1 := ?_) (by rfl) rfl ?_ ?_
 rotate_left
 ·go_simp
  rfl
 refine hK.out _ _ ⟨(cf NB976_969 ((cf NB976_969 ((cf NB976_969 (hHeld.1)))))), (cf NB976_969 ((cf NB976_969 ((cf NB976_969 (hHeld.2.1)))))), (cf NB976_969 ((cf NB976_969 ((cf NB976_969 (hHeld.2.2))))))⟩ (fun hHeld => ?_)
 clear hK K
 refine pureA 6 3 #[true, true, true, true, true, true, true, false, false] (any_of HT_.out (by kernel_rfl)) ?_
 refine pureA 7 4 #[true, true, true, true, true, true, true, true, false] (any_of HT_.out (by kernel_rfl)) ?_
 refine pureA 8 5 #[true, true, true, true, true, true, true, true, true] (any_of HT_.out (by kernel_rfl)) ?_
 refine done_ (done_of HT_.out (by kernel_rfl)) ?_
 try go_wp2
 refine bodyPost_ret (results_list (rs := [.cell 2 34, .tmp 3, .tmp 4, .tmp 5]) rfl (by simp) (.cell gb969 34 #[.int .i64 t971, .int .i64 t972, .int .i64 t973] (0, 0) _ rfl (by (with_reducible repeat (first | refine blk_drewN ?_ _ | refine blk_drew ?_ | refine blk_alloc ?_ _)); refine blk_put (cs := #[.int .i64 t971, .int .i64 t972, .int .i64 0]) ?_ 2 _ rfl; (with_reducible repeat (first | refine blk_drewN ?_ _ | refine blk_drew ?_ | refine blk_alloc ?_ _)); refine blk_put (cs := #[.int .i64 t971, .int .i64 0, .int .i64 0]) ?_ 1 _ rfl; (with_reducible repeat (first | refine blk_drewN ?_ _ | refine blk_drew ?_ | refine blk_alloc ?_ _)); refine blk_put (cs := #[.int .i64 0, .int .i64 0, .int .i64 0]) ?_ 0 _ rfl; (with_reducible repeat (first | refine blk_drewN ?_ _ | refine blk_drew ?_ | refine blk_alloc ?_ _)); exact BK969.out) Try.underlying34 rfl (by kernel_rfl) (.tmp (.tmp (.tmp .nil))))) rfl ?_
 exact ⟨_, _, by first | rfl | (simp [errW_none, errW_some] <;> rfl) | (simp [*, errW_none, errW_some] <;> rfl), by (with_reducible repeat (first | apply Kd.R_alloc | apply Kd.R_drewN | apply Kd.R_drew)); exact Kd.R_mono (Kd.R_far (p := ⟨gb969, 2, none⟩) (Kd.R_far (p := ⟨gb969, 1, none⟩) (Kd.R_far (p := ⟨gb969, 0, none⟩) (Kd.R_types HO982.out BK969.out (by decide)) (fun _ hk => hk.2) (.int .i64 t971)) (fun _ hk => hk.2) (.int .i64 t972)) (fun _ hk => hk.2) (.int .i64 t973)) (fun _ hk => trivial), by (with_reducible repeat (first | apply Kd.S_alloc | apply Kd.S_drewN | apply Kd.S_drew)); exact Kd.S_mono (Kd.S_far (p := ⟨gb969, 2, none⟩) (Kd.S_far (p := ⟨gb969, 1, none⟩) (Kd.S_far (p := ⟨gb969, 0, none⟩) (Kd.S_types HO987.out BK969.out (by decide)) (fun _ hk => hk.2) (.int .i64 t971)) (fun _ hk => hk.2) (.int .i64 t972)) (fun _ hk => hk.2) (.int .i64 t973)) (fun _ hk => trivial), (qz HB)⟩
def laws_wByte.f (l0 : List Int) (a1 : Int) : Option (Int) := if (l0.length : Int) = 0 then (some 0) else (if 0 ≤ (Int.tmod a1 (l0.length : Int)) then (if (Int.tmod a1 (l0.length : Int)) < (l0.length : Int) then (some (wrap64 (rd l0 (Int.tmod a1 (l0.length : Int))))) else (none)) else (none))
set_option maxHeartbeats 8000000 in
set_option maxRecDepth 100000 in
theorem laws_wByte.calls (A0 : Option Addr) (c0 : Nat) (l0 : List Int) (a1 : Int) (r : Int) (w : World) (hr0 : Kd.C (Kd.int .u8) w A0 l0.length l0) (hc0 : l0.length ≤ c0) (h : laws_wByte.f l0 a1 = some r) :
  Calls Try.prog 47 #[.slice A0 l0.length c0, .int .i64 a1] w fun e w' => e = .returned (.int .i64 r) ∧ Drawn0 w w' := by
 have HR0 := Aside0.mk hr0
 have HC0 := Aside0.mk hc0
 clear hr0 hc0
 have H : (if (l0.length : Int) = 0 then (some 0) else (if 0 ≤ (Int.tmod a1 (l0.length : Int)) then (if (Int.tmod a1 (l0.length : Int)) < (l0.length : Int) then (some (wrap64 (rd l0 (Int.tmod a1 (l0.length : Int))))) else (none)) else (none))) = some r := h
 clear h
 by_cases c3 : (l0.length : Int) = 0
 ·rw [if_pos c3] at H
  have c3b0 : ((l0.length : Int) == 0) = true := beq_iff_eq.mpr c3
  have c3b1 : ((l0.length : Int) != 0) = false := bne_eq_false_iff_eq.mpr c3
  clear c3
  obtain rfl := Option.some.inj H
  go_enter Try.func47, Try.ntmps47
  go_wp2
  go_ret
  exact ⟨by first | rfl | (simp; done) | (simp [*]; done), by repeat (first | exact Drawn0.refl _ | apply Drawn0.step)⟩
 rw [if_neg c3] at H
 have c3b0 : ((l0.length : Int) == 0) = false := beq_eq_false_iff_ne.mpr c3
 have c3b1 : ((l0.length : Int) != 0) = true := bne_iff_ne.mpr c3
 have c3b2 : ¬ (l0 = []) := fun h_ => c3 (by rw [h_]; rfl)
 obtain ⟨ji4, hji4⟩ : ∃ j_ : Int, (Int.tmod a1 (l0.length : Int)) = j_ := ⟨_, rfl⟩
 replace H : (if 0 ≤ (ji4) then (if (ji4) < (l0.length : Int) then (some (wrap64 (rd l0 (ji4)))) else (none)) else (none)) = some r := by first | (rw [hji4] at H; exact H) | (simp only [hji4] at H ⊢; exact H)
 by_cases c5 : 0 ≤ (ji4)
 ·rw [if_pos c5] at H
  have c5b0 : decide (0 ≤ (ji4)) = true := decide_eq_true c5
  clear c5
  by_cases c6 : (ji4) < (l0.length : Int)
  ·rw [if_pos c6] at H
   have c6b0 : decide ((ji4) < (l0.length : Int)) = true := decide_eq_true c6
   clear c6
   obtain rfl := Option.some.inj H
   have p990 : 0 ≤ ((ji4) : Int) := of_decide_eq_true (by first | (with_reducible assumption) | assumption)
   have q990 : (ji4) < (l0.length : Int) := of_decide_eq_true (by first | (with_reducible assumption) | assumption)
   obtain ⟨ad990, e990, hx990_0⟩ := Kd.at_int HR0.out (ji4) p990 q990
   cases e990
   replace p990 := eq_true p990
   replace q990 := eq_true q990
   go_enter Try.func47, Try.ntmps47
   go_wp2
   go_ret
   exact ⟨by first | rfl | (simp; done) | (simp only [← hji4] <;> (first | rfl | simp)) | (simp [*]; done), by repeat (first | exact Drawn0.refl _ | apply Drawn0.step)⟩
  rw [if_neg c6] at H
  exact absurd H (by simp)
 rw [if_neg c5] at H
 exact absurd H (by simp)
def impl_TrainSilent.f (a0_0 : Int) (a0_1 : Int) (a0_2 : Int) (a1 : Int) (a2_0 : Int) (a2_1 : Int) (a2_2 : Int) : Option (Bool) := (impl_RulesOk.f a0_0 a0_1 a0_2).bind fun t993 => (if t993 = true then ((impl_TrainOk.f a1 a2_0 a2_1 a2_2).bind fun t994 => (if t994 = true then (some (decide ((wrap64 (a1 - a2_2)) > a0_1))) else (some false))) else (some false))
set_option maxHeartbeats 8000000 in
set_option maxRecDepth 100000 in
theorem impl_TrainSilent.calls (a0_0 : Int) (a0_1 : Int) (a0_2 : Int) (a1 : Int) (a2_0 : Int) (a2_1 : Int) (a2_2 : Int) (r : Bool) (w : World) (h : impl_TrainSilent.f a0_0 a0_1 a0_2 a1 a2_0 a2_1 a2_2 = some r) :
  Calls Try.prog 48 #[.agg #[.int .i64 a0_0, .int .i64 a0_1, .int .i64 a0_2], .int .i64 a1, .agg #[.int .i64 a2_0, .int .i64 a2_1, .int .i64 a2_2]] w fun e w' => e = .returned (.bool r) ∧ Below w.heap.size w w' := by
 have hu34 := Try.underlying34
 have hu48 := Try.underlying48
 have HB := Aside0.mk (Below.refl w.heap.size w)
 have H : ((impl_RulesOk.f a0_0 a0_1 a0_2).bind fun t993 => (if t993 = true then ((impl_TrainOk.f a1 a2_0 a2_1 a2_2).bind fun t994 => (if t994 = true then (some (decide ((wrap64 (a1 - a2_2)) > a0_1))) else (some false))) else (some false))) = some r := h
 clear h
 replace H := Option.bind_eq_some_iff.mp H
 obtain ⟨t993, A40, H⟩ := H
 replace H : (if t993 = true then ((impl_TrainOk.f a1 a2_0 a2_1 a2_2).bind fun t994 => (if t994 = true then (some (decide ((wrap64 (a1 - a2_2)) > a0_1))) else (some false))) else (some false)) = some r := H
 have A4 := Aside0.mk A40
 clear A40
 by_cases c5 : t993 = true
 ·subst c5
  have H1 : ((impl_TrainOk.f a1 a2_0 a2_1 a2_2).bind fun t994 => (if t994 = true then (some (decide ((wrap64 (a1 - a2_2)) > a0_1))) else (some false))) = some r := by rw [if_pos rfl] at H; exact H
  clear H; have H := H1; clear H1
  replace H := Option.bind_eq_some_iff.mp H
  obtain ⟨t994, A60, H⟩ := H
  replace H : (if t994 = true then (some (decide ((wrap64 (a1 - a2_2)) > a0_1))) else (some false)) = some r := H
  have A6 := Aside0.mk A60
  clear A60
  by_cases c7 : t994 = true
  ·subst c7
   have H1 : (some (decide ((wrap64 (a1 - a2_2)) > a0_1))) = some r := by rw [if_pos rfl] at H; exact H
   clear H; have H := H1; clear H1
   obtain rfl := Option.some.inj H
   go_enter Try.func48, Try.ntmps48
   go_wp2_with (first | ((with_reducible refine gate_dst (N := 3) rfl ?_); refine boxA #[.int .i64 a0_0, .int .i64 a0_1, .int .i64 a0_2] 34 ?_; intro gb991 hg w8 hbox hb; have BK991 := Aside0.mk (hbox); have GW991 := nge HB hg; have GE991 := nge HB hg; replace HB := bst HB hb; clear hb hbox hg) | ((with_reducible refine gate_dst (N := 5) rfl ?_); refine boxA #[.int .i64 a2_0, .int .i64 a2_1, .int .i64 a2_2] 48 ?_; intro gb992 hg w9 hbox hb; have BK992 := Aside0.mk (hbox); have GW992 := nge HB hg; have GE992 := nge HB hg; replace HB := bst HB hb; have NB991_992 := nlt BK991 hg; have NB992_991 := ngt BK991 hg; replace BK991 := bkb BK991 hb; clear hb hbox hg; have hnb10 := NB991_992.out; have hnc10 := NB992_991.out; have hcz11_0 := b0 BK991; have hcz11_1 := b1 BK991; have hcz11_2 := b2 BK991; have hfz11_0 := blk_frozen BK991.out 0; have hfz11_1 := blk_frozen BK991.out 1; have hfz11_2 := blk_frozen BK991.out 2) | ((with_reducible refine gate_callee (f := 58) rfl ?_); refine goesLA (some 8) rfl Try.func58 #[.agg #[.int .i64 a0_0, .int .i64 a0_1, .int .i64 a0_2]] ?_; (with_reducible refine (impl_RulesOk.calls a0_0 a0_1 a0_2 true _ A4.out).mono ?_); rintro e w12 ⟨rfl, hb⟩; refine ⟨_, rfl, ?_⟩; replace BK991 := bkb BK991 hb; replace BK992 := bkb BK992 hb; replace HB := bst HB hb; clear hb; have hcz13_0 := b0 BK992; have hcz13_1 := b1 BK992; have hcz13_2 := b2 BK992; have hfz13_0 := blk_frozen BK992.out 0; have hfz13_1 := blk_frozen BK992.out 1; have hfz13_2 := blk_frozen BK992.out 2) | (go_at_call 66; (with_reducible refine (impl_TrainOk.calls a1 a2_0 a2_1 a2_2 true _ A6.out).mono ?_); rintro e w14 ⟨rfl, hb⟩; replace BK991 := bkb BK991 hb; replace BK992 := bkb BK992 hb; replace HB := bst HB hb; clear hb; have hcz15_0 := b0 BK992; have hcz15_1 := b1 BK992; have hcz15_2 := b2 BK992; have hfz15_0 := blk_frozen BK992.out 0; have hfz15_1 := blk_frozen BK992.out 1; have hfz15_2 := blk_frozen BK992.out 2; have hcz16_0 := b0 BK991; have hcz16_1 := b1 BK991; have hcz16_2 := b2 BK991; have hfz16_0 := blk_frozen BK991.out 0; have hfz16_1 := blk_frozen BK991.out 1; have hfz16_2 := blk_frozen BK991.out 2))
   go_ret
   exact ⟨by first | rfl | (simp [errW_none, errW_some] <;> rfl) | (simp [*, errW_none, errW_some] <;> rfl), (qs HB)⟩
  replace c7 := Bool.eq_false_iff.mpr c7
  subst c7
  have H1 : (some false) = some r := by rw [if_neg (show ¬ (false = true) by decide)] at H; exact H
  clear H; have H := H1; clear H1
  obtain rfl := Option.some.inj H
  go_enter Try.func48, Try.ntmps48
  go_wp2_with (first | ((with_reducible refine gate_dst (N := 3) rfl ?_); refine boxA #[.int .i64 a0_0, .int .i64 a0_1, .int .i64 a0_2] 34 ?_; intro gb991 hg w17 hbox hb; have BK991 := Aside0.mk (hbox); have GW991 := nge HB hg; have GE991 := nge HB hg; replace HB := bst HB hb; clear hb hbox hg) | ((with_reducible refine gate_dst (N := 5) rfl ?_); refine boxA #[.int .i64 a2_0, .int .i64 a2_1, .int .i64 a2_2] 48 ?_; intro gb992 hg w18 hbox hb; have BK992 := Aside0.mk (hbox); have GW992 := nge HB hg; have GE992 := nge HB hg; replace HB := bst HB hb; have NB991_992 := nlt BK991 hg; have NB992_991 := ngt BK991 hg; replace BK991 := bkb BK991 hb; clear hb hbox hg; have hnb19 := NB991_992.out; have hnc19 := NB992_991.out; have hcz20_0 := b0 BK991; have hcz20_1 := b1 BK991; have hcz20_2 := b2 BK991; have hfz20_0 := blk_frozen BK991.out 0; have hfz20_1 := blk_frozen BK991.out 1; have hfz20_2 := blk_frozen BK991.out 2) | ((with_reducible refine gate_callee (f := 58) rfl ?_); refine goesLA (some 8) rfl Try.func58 #[.agg #[.int .i64 a0_0, .int .i64 a0_1, .int .i64 a0_2]] ?_; (with_reducible refine (impl_RulesOk.calls a0_0 a0_1 a0_2 true _ A4.out).mono ?_); rintro e w21 ⟨rfl, hb⟩; refine ⟨_, rfl, ?_⟩; replace BK991 := bkb BK991 hb; replace BK992 := bkb BK992 hb; replace HB := bst HB hb; clear hb; have hcz22_0 := b0 BK992; have hcz22_1 := b1 BK992; have hcz22_2 := b2 BK992; have hfz22_0 := blk_frozen BK992.out 0; have hfz22_1 := blk_frozen BK992.out 1; have hfz22_2 := blk_frozen BK992.out 2) | (go_at_call 66; (with_reducible refine (impl_TrainOk.calls a1 a2_0 a2_1 a2_2 false _ A6.out).mono ?_); rintro e w23 ⟨rfl, hb⟩; replace BK991 := bkb BK991 hb; replace BK992 := bkb BK992 hb; replace HB := bst HB hb; clear hb))
  go_ret
  exact ⟨by first | rfl | (simp [errW_none, errW_some] <;> rfl) | (simp [*, errW_none, errW_some] <;> rfl), (qs HB)⟩
 replace c5 := Bool.eq_false_iff.mpr c5
 subst c5
 have H1 : (some false) = some r := by rw [if_neg (show ¬ (false = true) by decide)] at H; exact H
 clear H; have H := H1; clear H1
 obtain rfl := Option.some.inj H
 go_enter Try.func48, Try.ntmps48
 go_wp2_with (first | ((with_reducible refine gate_dst (N := 3) rfl ?_); refine boxA #[.int .i64 a0_0, .int .i64 a0_1, .int .i64 a0_2] 34 ?_; intro gb991 hg w24 hbox hb; have BK991 := Aside0.mk (hbox); have GW991 := nge HB hg; have GE991 := nge HB hg; replace HB := bst HB hb; clear hb hbox hg) | ((with_reducible refine gate_dst (N := 5) rfl ?_); refine boxA #[.int .i64 a2_0, .int .i64 a2_1, .int .i64 a2_2] 48 ?_; intro gb992 hg w25 hbox hb; have BK992 := Aside0.mk (hbox); have GW992 := nge HB hg; have GE992 := nge HB hg; replace HB := bst HB hb; have NB991_992 := nlt BK991 hg; have NB992_991 := ngt BK991 hg; replace BK991 := bkb BK991 hb; clear hb hbox hg; have hnb26 := NB991_992.out; have hnc26 := NB992_991.out; have hcz27_0 := b0 BK991; have hcz27_1 := b1 BK991; have hcz27_2 := b2 BK991; have hfz27_0 := blk_frozen BK991.out 0; have hfz27_1 := blk_frozen BK991.out 1; have hfz27_2 := blk_frozen BK991.out 2) | ((with_reducible refine gate_callee (f := 58) rfl ?_); refine goesLA (some 8) rfl Try.func58 #[.agg #[.int .i64 a0_0, .int .i64 a0_1, .int .i64 a0_2]] ?_; (with_reducible refine (impl_RulesOk.calls a0_0 a0_1 a0_2 false _ A4.out).mono ?_); rintro e w28 ⟨rfl, hb⟩; refine ⟨_, rfl, ?_⟩; replace BK991 := bkb BK991 hb; replace BK992 := bkb BK992 hb; replace HB := bst HB hb; clear hb))
 go_ret
 exact ⟨by first | rfl | (simp [errW_none, errW_some] <;> rfl) | (simp [*, errW_none, errW_some] <;> rfl), (qs HB)⟩
def impl_BoxSilent.f (a0_0 : Int) (a0_1 : Int) (a0_2 : Int) (a1 : Int) (a2_0 : Int) (a2_1 : Int) (a2_2 : Int) (a2_3 : Int) (a2_4 : Int) : Option (Bool) := (impl_RulesOk.f a0_0 a0_1 a0_2).bind fun t997 => (if t997 = true then ((impl_BoxOk.f a1 a2_0 a2_1 a2_2 a2_3 a2_4).bind fun t998 => (if t998 = true then (some (decide ((wrap64 (a1 - a2_4)) > a0_1))) else (some false))) else (some false))
set_option maxHeartbeats 8000000 in
set_option maxRecDepth 100000 in
theorem impl_BoxSilent.calls (a0_0 : Int) (a0_1 : Int) (a0_2 : Int) (a1 : Int) (a2_0 : Int) (a2_1 : Int) (a2_2 : Int) (a2_3 : Int) (a2_4 : Int) (r : Bool) (w : World) (h : impl_BoxSilent.f a0_0 a0_1 a0_2 a1 a2_0 a2_1 a2_2 a2_3 a2_4 = some r) :
  Calls Try.prog 49 #[.agg #[.int .i64 a0_0, .int .i64 a0_1, .int .i64 a0_2], .int .i64 a1, .agg #[.int .i64 a2_0, .int .i64 a2_1, .int .i64 a2_2, .int .i64 a2_3, .int .i64 a2_4]] w fun e w' => e = .returned (.bool r) ∧ Below w.heap.size w w' := by
 have hu34 := Try.underlying34
 have hu29 := Try.underlying29
 have HB := Aside0.mk (Below.refl w.heap.size w)
 have H : ((impl_RulesOk.f a0_0 a0_1 a0_2).bind fun t997 => (if t997 = true then ((impl_BoxOk.f a1 a2_0 a2_1 a2_2 a2_3 a2_4).bind fun t998 => (if t998 = true then (some (decide ((wrap64 (a1 - a2_4)) > a0_1))) else (some false))) else (some false))) = some r := h
 clear h
 replace H := Option.bind_eq_some_iff.mp H
 obtain ⟨t997, A40, H⟩ := H
 replace H : (if t997 = true then ((impl_BoxOk.f a1 a2_0 a2_1 a2_2 a2_3 a2_4).bind fun t998 => (if t998 = true then (some (decide ((wrap64 (a1 - a2_4)) > a0_1))) else (some false))) else (some false)) = some r := H
 have A4 := Aside0.mk A40
 clear A40
 by_cases c5 : t997 = true
 ·subst c5
  have H1 : ((impl_BoxOk.f a1 a2_0 a2_1 a2_2 a2_3 a2_4).bind fun t998 => (if t998 = true then (some (decide ((wrap64 (a1 - a2_4)) > a0_1))) else (some false))) = some r := by rw [if_pos rfl] at H; exact H
  clear H; have H := H1; clear H1
  replace H := Option.bind_eq_some_iff.mp H
  obtain ⟨t998, A60, H⟩ := H
  replace H : (if t998 = true then (some (decide ((wrap64 (a1 - a2_4)) > a0_1))) else (some false)) = some r := H
  have A6 := Aside0.mk A60
  clear A60
  by_cases c7 : t998 = true
  ·subst c7
   have H1 : (some (decide ((wrap64 (a1 - a2_4)) > a0_1))) = some r := by rw [if_pos rfl] at H; exact H
   clear H; have H := H1; clear H1
   obtain rfl := Option.some.inj H
   go_enter Try.func49, Try.ntmps49
   go_wp2_with (first | ((with_reducible refine gate_dst (N := 3) rfl ?_); refine boxA #[.int .i64 a0_0, .int .i64 a0_1, .int .i64 a0_2] 34 ?_; intro gb995 hg w8 hbox hb; have BK995 := Aside0.mk (hbox); have GW995 := nge HB hg; have GE995 := nge HB hg; replace HB := bst HB hb; clear hb hbox hg) | ((with_reducible refine gate_dst (N := 5) rfl ?_); refine boxA #[.int .i64 a2_0, .int .i64 a2_1, .int .i64 a2_2, .int .i64 a2_3, .int .i64 a2_4] 29 ?_; intro gb996 hg w9 hbox hb; have BK996 := Aside0.mk (hbox); have GW996 := nge HB hg; have GE996 := nge HB hg; replace HB := bst HB hb; have NB995_996 := nlt BK995 hg; have NB996_995 := ngt BK995 hg; replace BK995 := bkb BK995 hb; clear hb hbox hg; have hnb10 := NB995_996.out; have hnc10 := NB996_995.out; have hcz11_0 := b0 BK995; have hcz11_1 := b1 BK995; have hcz11_2 := b2 BK995; have hfz11_0 := blk_frozen BK995.out 0; have hfz11_1 := blk_frozen BK995.out 1; have hfz11_2 := blk_frozen BK995.out 2) | ((with_reducible refine gate_callee (f := 58) rfl ?_); refine goesLA (some 8) rfl Try.func58 #[.agg #[.int .i64 a0_0, .int .i64 a0_1, .int .i64 a0_2]] ?_; (with_reducible refine (impl_RulesOk.calls a0_0 a0_1 a0_2 true _ A4.out).mono ?_); rintro e w12 ⟨rfl, hb⟩; refine ⟨_, rfl, ?_⟩; replace BK995 := bkb BK995 hb; replace BK996 := bkb BK996 hb; replace HB := bst HB hb; clear hb; have hcz13_0 := b0 BK996; have hcz13_1 := b1 BK996; have hcz13_2 := b2 BK996; have hcz13_3 := b3 BK996; have hcz13_4 := b4 BK996; have hfz13_0 := blk_frozen BK996.out 0; have hfz13_1 := blk_frozen BK996.out 1; have hfz13_2 := blk_frozen BK996.out 2; have hfz13_3 := blk_frozen BK996.out 3; have hfz13_4 := blk_frozen BK996.out 4) | (go_at_call 59; (with_reducible refine (impl_BoxOk.calls a1 a2_0 a2_1 a2_2 a2_3 a2_4 true _ A6.out).mono ?_); rintro e w14 ⟨rfl, hb⟩; replace BK995 := bkb BK995 hb; replace BK996 := bkb BK996 hb; replace HB := bst HB hb; clear hb; have hcz15_0 := b0 BK996; have hcz15_1 := b1 BK996; have hcz15_2 := b2 BK996; have hcz15_3 := b3 BK996; have hcz15_4 := b4 BK996; have hfz15_0 := blk_frozen BK996.out 0; have hfz15_1 := blk_frozen BK996.out 1; have hfz15_2 := blk_frozen BK996.out 2; have hfz15_3 := blk_frozen BK996.out 3; have hfz15_4 := blk_frozen BK996.out 4; have hcz16_0 := b0 BK995; have hcz16_1 := b1 BK995; have hcz16_2 := b2 BK995; have hfz16_0 := blk_frozen BK995.out 0; have hfz16_1 := blk_frozen BK995.out 1; have hfz16_2 := blk_frozen BK995.out 2))
   go_ret
   exact ⟨by first | rfl | (simp [errW_none, errW_some] <;> rfl) | (simp [*, errW_none, errW_some] <;> rfl), (qs HB)⟩
  replace c7 := Bool.eq_false_iff.mpr c7
  subst c7
  have H1 : (some false) = some r := by rw [if_neg (show ¬ (false = true) by decide)] at H; exact H
  clear H; have H := H1; clear H1
  obtain rfl := Option.some.inj H
  go_enter Try.func49, Try.ntmps49
  go_wp2_with (first | ((with_reducible refine gate_dst (N := 3) rfl ?_); refine boxA #[.int .i64 a0_0, .int .i64 a0_1, .int .i64 a0_2] 34 ?_; intro gb995 hg w17 hbox hb; have BK995 := Aside0.mk (hbox); have GW995 := nge HB hg; have GE995 := nge HB hg; replace HB := bst HB hb; clear hb hbox hg) | ((with_reducible refine gate_dst (N := 5) rfl ?_); refine boxA #[.int .i64 a2_0, .int .i64 a2_1, .int .i64 a2_2, .int .i64 a2_3, .int .i64 a2_4] 29 ?_; intro gb996 hg w18 hbox hb; have BK996 := Aside0.mk (hbox); have GW996 := nge HB hg; have GE996 := nge HB hg; replace HB := bst HB hb; have NB995_996 := nlt BK995 hg; have NB996_995 := ngt BK995 hg; replace BK995 := bkb BK995 hb; clear hb hbox hg; have hnb19 := NB995_996.out; have hnc19 := NB996_995.out; have hcz20_0 := b0 BK995; have hcz20_1 := b1 BK995; have hcz20_2 := b2 BK995; have hfz20_0 := blk_frozen BK995.out 0; have hfz20_1 := blk_frozen BK995.out 1; have hfz20_2 := blk_frozen BK995.out 2) | ((with_reducible refine gate_callee (f := 58) rfl ?_); refine goesLA (some 8) rfl Try.func58 #[.agg #[.int .i64 a0_0, .int .i64 a0_1, .int .i64 a0_2]] ?_; (with_reducible refine (impl_RulesOk.calls a0_0 a0_1 a0_2 true _ A4.out).mono ?_); rintro e w21 ⟨rfl, hb⟩; refine ⟨_, rfl, ?_⟩; replace BK995 := bkb BK995 hb; replace BK996 := bkb BK996 hb; replace HB := bst HB hb; clear hb; have hcz22_0 := b0 BK996; have hcz22_1 := b1 BK996; have hcz22_2 := b2 BK996; have hcz22_3 := b3 BK996; have hcz22_4 := b4 BK996; have hfz22_0 := blk_frozen BK996.out 0; have hfz22_1 := blk_frozen BK996.out 1; have hfz22_2 := blk_frozen BK996.out 2; have hfz22_3 := blk_frozen BK996.out 3; have hfz22_4 := blk_frozen BK996.out 4) | (go_at_call 59; (with_reducible refine (impl_BoxOk.calls a1 a2_0 a2_1 a2_2 a2_3 a2_4 false _ A6.out).mono ?_); rintro e w23 ⟨rfl, hb⟩; replace BK995 := bkb BK995 hb; replace BK996 := bkb BK996 hb; replace HB := bst HB hb; clear hb))
  go_ret
  exact ⟨by first | rfl | (simp [errW_none, errW_some] <;> rfl) | (simp [*, errW_none, errW_some] <;> rfl), (qs HB)⟩
 replace c5 := Bool.eq_false_iff.mpr c5
 subst c5
 have H1 : (some false) = some r := by rw [if_neg (show ¬ (false = true) by decide)] at H; exact H
 clear H; have H := H1; clear H1
 obtain rfl := Option.some.inj H
 go_enter Try.func49, Try.ntmps49
 go_wp2_with (first | ((with_reducible refine gate_dst (N := 3) rfl ?_); refine boxA #[.int .i64 a0_0, .int .i64 a0_1, .int .i64 a0_2] 34 ?_; intro gb995 hg w24 hbox hb; have BK995 := Aside0.mk (hbox); have GW995 := nge HB hg; have GE995 := nge HB hg; replace HB := bst HB hb; clear hb hbox hg) | ((with_reducible refine gate_dst (N := 5) rfl ?_); refine boxA #[.int .i64 a2_0, .int .i64 a2_1, .int .i64 a2_2, .int .i64 a2_3, .int .i64 a2_4] 29 ?_; intro gb996 hg w25 hbox hb; have BK996 := Aside0.mk (hbox); have GW996 := nge HB hg; have GE996 := nge HB hg; replace HB := bst HB hb; have NB995_996 := nlt BK995 hg; have NB996_995 := ngt BK995 hg; replace BK995 := bkb BK995 hb; clear hb hbox hg; have hnb26 := NB995_996.out; have hnc26 := NB996_995.out; have hcz27_0 := b0 BK995; have hcz27_1 := b1 BK995; have hcz27_2 := b2 BK995; have hfz27_0 := blk_frozen BK995.out 0; have hfz27_1 := blk_frozen BK995.out 1; have hfz27_2 := blk_frozen BK995.out 2) | ((with_reducible refine gate_callee (f := 58) rfl ?_); refine goesLA (some 8) rfl Try.func58 #[.agg #[.int .i64 a0_0, .int .i64 a0_1, .int .i64 a0_2]] ?_; (with_reducible refine (impl_RulesOk.calls a0_0 a0_1 a0_2 false _ A4.out).mono ?_); rintro e w28 ⟨rfl, hb⟩; refine ⟨_, rfl, ?_⟩; replace BK995 := bkb BK995 hb; replace BK996 := bkb BK996 hb; replace HB := bst HB hb; clear hb))
 go_ret
 exact ⟨by first | rfl | (simp [errW_none, errW_some] <;> rfl) | (simp [*, errW_none, errW_some] <;> rfl), (qs HB)⟩
end Go.Proofs.Ytndffnacbfdnoaa.PAll
