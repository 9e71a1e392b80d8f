-- Lines of SpecRun that this claim uses.
import Derived.Test.YtndffnacbfdnoaaRUSpecI
import Derived.Test.YtndffnacbfdnoaaRUPkq
import Derived.Test.YtndffnacbfdnoaaRUPAllx6
import Derived.Test.YtndffnacbfdnoaaRUPAllx12
namespace Go.Proofs.Ytndffnacbfdnoaa.PAll
open Go.RowKit Go.Proofs.YtndffnacbfdnoaaW.PrintWords Go.Proofs.YtndffnacbfdnoaaW.PrintLast Go.Proofs.YtndffnacbfdnoaaW.PrintMore
attribute [local go_sem] max2_int min2_int max_two min_two max_three min_three max_four min_four
set_option linter.unusedVariables false
set_option linter.unusedSimpArgs false
set_option maxHeartbeats 16000000 in
set_option maxRecDepth 100000 in
theorem spec_Run.calls (a0_0 : Int) (a0_1 : Int) (a0_2 : Int) (A1 : Option Addr) (c1 : Nat) (l1 : List (S84)) (A2 : Option Addr) (c2 : Nat) (l2 : List (List Int)) (a3 : Int) (r : List (S86)) (w : World) (hr1 : Kd.C k84 w A1 l1.length l1) (hc1 : l1.length ≤ c1) (hr2 : Kd.C (Kd.slice 3 (Kd.int .i64)) w A2 l2.length l2) (hc2 : l2.length ≤ c2) (h : spec_Run.f a0_0 a0_1 a0_2 l1 l2 a3 = some r) :
  Calls Try.prog 35 #[.agg #[.int .i64 a0_0, .int .i64 a0_1, .int .i64 a0_2], .slice A1 l1.length c1, .slice A2 l2.length c2, .int .i64 a3] w fun e w' => ∃ v0_ : Value, e = .returned v0_ ∧ Kd.R k86 86 w' w.heap.size (fun _ => True) v0_ r ∧ Below w.heap.size w w' := by
 have hu34 := Try.underlying34
 have HR1 := Aside0.mk hr1
 have HC1 := Aside0.mk hc1
 have HR2 := Aside0.mk hr2
 have HC2 := Aside0.mk hc2
 clear hr1 hc1 hr2 hc2
 have HB := Aside0.mk (Below.refl w.heap.size w)
 unfold spec_Run.f at h
 by_cases hz : sized l1 l2 = true
 ·rw [if_pos hz] at h
  have hz0 := sized_of hz
  have HZ := Aside0.mk hz0
  have HL := Aside0.mk (Option.some.inj h)
  clear h hz hz0
  obtain ⟨kq, hkq⟩ : ∃ k, fcost l2 + l1.length < k := ⟨_, Nat.lt_succ_self _⟩
  have A5 := Aside0.mk (srules_is a0_0 a0_1 a0_2)
  have A6_ := Aside0.mk (l1in_is a3 0 2000)
  have A7 := Aside0.mk (sets_is l1 HZ.out.1 a3 kq (by omega))
  have A8 := Aside0.mk (fates_is l2 HZ.out.2.1 HZ.out.2.2 kq (by omega))
  have HGE := Aside0.mk (goodB_eq a0_0 a0_1 a0_2 l1 l2 a3)
  clear hkq
  generalize rulesB a0_0 a0_1 a0_2 = q1 at A5 HGE
  generalize decide (0 ≤ a3 ∧ a3 ≤ 2000) = q2 at A6_ HGE
  generalize (risingB a3 1 l1 && decide (l1.length ≤ 200)) = q3 at A7 HGE
  generalize (l2.all fateB && decide (l2.length ≤ 5000)) = q4 at A8 HGE
  go_enter Try.func35, Try.ntmps35
  cases q1 with
  | false =>
   have HRN : Aside0 (r = []) := ⟨by rw [← HL.out]; unfold runAll; rw [HGE.out]; simp⟩
   go_wp2_with (first | ((with_reducible refine gate_dst (N := 4) rfl ?_); refine boxA #[.int .i64 a0_0, .int .i64 a0_1, .int .i64 a0_2] 34 ?_; intro gr hg w1 hbox hb; have BR := Aside0.mk hbox; have GR := nge HB hg; replace HB := bst HB hb; have r0 := b0 BR; have r1 := b1 BR; have r2 := b2 BR; clear hg hbox hb) | (go_at_call 54; (with_reducible refine (spec_RulesOk.calls a0_0 a0_1 a0_2 false _ A5.out).mono ?_); rintro e w2 ⟨rfl, hb⟩; replace BR := bkb BR hb; replace HB := bst HB hb; clear hb; clear r0 r1 r2; have r0 := b0 BR; have r1 := b1 BR; have r2 := b2 BR))
   go_ret
   exact ⟨_, rfl, by rw [HRN.out]; exact Kd.R_nil _ _ _ _ _, HB.out⟩
  | true =>
   cases q2 with
   | false =>
    have HRN : Aside0 (r = []) := ⟨by rw [← HL.out]; unfold runAll; rw [HGE.out]; simp⟩
    go_wp2_with (first | ((with_reducible refine gate_dst (N := 4) rfl ?_); refine boxA #[.int .i64 a0_0, .int .i64 a0_1, .int .i64 a0_2] 34 ?_; intro gr hg w1 hbox hb; have BR := Aside0.mk hbox; have GR := nge HB hg; replace HB := bst HB hb; have r0 := b0 BR; have r1 := b1 BR; have r2 := b2 BR; clear hg hbox hb) | (go_at_call 54; (with_reducible refine (spec_RulesOk.calls a0_0 a0_1 a0_2 true _ A5.out).mono ?_); rintro e w2 ⟨rfl, hb⟩; replace BR := bkb BR hb; replace HB := bst HB hb; clear hb; clear r0 r1 r2; have r0 := b0 BR; have r1 := b1 BR; have r2 := b2 BR) | (go_at_call 77; (with_reducible refine (spec_l1in.calls a3 0 2000 false _ A6_.out).mono ?_); rintro e w3 ⟨rfl, hd⟩; have hb := Drawn0.below hd; clear hd; replace BR := bkb BR hb; replace HB := bst HB hb; clear hb; clear r0 r1 r2; have r0 := b0 BR; have r1 := b1 BR; have r2 := b2 BR))
    go_ret
    exact ⟨_, rfl, by rw [HRN.out]; exact Kd.R_nil _ _ _ _ _, HB.out⟩
   | true =>
    cases q3 with
    | false =>
     have HRN : Aside0 (r = []) := ⟨by rw [← HL.out]; unfold runAll; rw [HGE.out]; simp⟩
     go_wp2_with (first | ((with_reducible refine gate_dst (N := 4) rfl ?_); refine boxA #[.int .i64 a0_0, .int .i64 a0_1, .int .i64 a0_2] 34 ?_; intro gr hg w1 hbox hb; have BR := Aside0.mk hbox; have GR := nge HB hg; replace HB := bst HB hb; have r0 := b0 BR; have r1 := b1 BR; have r2 := b2 BR; clear hg hbox hb) | (go_at_call 54; (with_reducible refine (spec_RulesOk.calls a0_0 a0_1 a0_2 true _ A5.out).mono ?_); rintro e w2 ⟨rfl, hb⟩; replace BR := bkb BR hb; replace HB := bst HB hb; clear hb; clear r0 r1 r2; have r0 := b0 BR; have r1 := b1 BR; have r2 := b2 BR) | (go_at_call 77; (with_reducible refine (spec_l1in.calls a3 0 2000 true _ A6_.out).mono ?_); rintro e w3 ⟨rfl, hd⟩; have hb := Drawn0.below hd; clear hd; replace BR := bkb BR hb; replace HB := bst HB hb; clear hb; clear r0 r1 r2; have r0 := b0 BR; have r1 := b1 BR; have r2 := b2 BR) | (go_at_call 78; (with_reducible refine (spec_l3sets.calls kq A1 c1 l1 a3 false _ (Kd.C_below HR1.out HB.out) HC1.out A7.out).mono ?_); rintro e w4 ⟨rfl, hb⟩; replace BR := bkb BR hb; replace HB := bst HB hb; clear hb; clear r0 r1 r2; have r0 := b0 BR; have r1 := b1 BR; have r2 := b2 BR))
     go_ret
     exact ⟨_, rfl, by rw [HRN.out]; exact Kd.R_nil _ _ _ _ _, HB.out⟩
    | true =>
     cases q4 with
     | false =>
      have HRN : Aside0 (r = []) := ⟨by rw [← HL.out]; unfold runAll; rw [HGE.out]; simp⟩
      go_wp2_with (first | ((with_reducible refine gate_dst (N := 4) rfl ?_); refine boxA #[.int .i64 a0_0, .int .i64 a0_1, .int .i64 a0_2] 34 ?_; intro gr hg w1 hbox hb; have BR := Aside0.mk hbox; have GR := nge HB hg; replace HB := bst HB hb; have r0 := b0 BR; have r1 := b1 BR; have r2 := b2 BR; clear hg hbox hb) | (go_at_call 54; (with_reducible refine (spec_RulesOk.calls a0_0 a0_1 a0_2 true _ A5.out).mono ?_); rintro e w2 ⟨rfl, hb⟩; replace BR := bkb BR hb; replace HB := bst HB hb; clear hb; clear r0 r1 r2; have r0 := b0 BR; have r1 := b1 BR; have r2 := b2 BR) | (go_at_call 77; (with_reducible refine (spec_l1in.calls a3 0 2000 true _ A6_.out).mono ?_); rintro e w3 ⟨rfl, hd⟩; have hb := Drawn0.below hd; clear hd; replace BR := bkb BR hb; replace HB := bst HB hb; clear hb; clear r0 r1 r2; have r0 := b0 BR; have r1 := b1 BR; have r2 := b2 BR) | (go_at_call 78; (with_reducible refine (spec_l3sets.calls kq A1 c1 l1 a3 true _ (Kd.C_below HR1.out HB.out) HC1.out A7.out).mono ?_); rintro e w4 ⟨rfl, hb⟩; replace BR := bkb BR hb; replace HB := bst HB hb; clear hb; clear r0 r1 r2; have r0 := b0 BR; have r1 := b1 BR; have r2 := b2 BR) | (go_at_call 79; (with_reducible refine (spec_l3fates.calls kq A2 c2 l2 false _ (Kd.C_below HR2.out HB.out) HC2.out A8.out).mono ?_); rintro e w5 ⟨rfl, hd⟩; have hb := Drawn0.below hd; clear hd; replace BR := bkb BR hb; replace HB := bst HB hb; clear hb; clear r0 r1 r2; have r0 := b0 BR; have r1 := b1 BR; have r2 := b2 BR))
      go_ret
      exact ⟨_, rfl, by rw [HRN.out]; exact Kd.R_nil _ _ _ _ _, HB.out⟩
     | true =>
      have HG : Aside0 (RunGood a0_0 a0_1 a0_2 l1 l2 a3) := ⟨good_of (by rw [HGE.out]; rfl)⟩
      have HL2 : Aside0 (runLoop a0_0 a0_1 a0_2 l2 a3 a3.toNat 1 z29 z48 (List.replicate (a3 + 1).toNat []) (List.replicate (a3 + 1).toNat []) 0 l1 [] = r) := ⟨by have h := HL.out; unfold runAll at h; rw [if_pos (by rw [HGE.out]; rfl)] at h; exact h⟩
      clear HL HGE
      go_wp2_with (first | ((with_reducible refine gate_dst (N := 4) rfl ?_); refine boxA #[.int .i64 a0_0, .int .i64 a0_1, .int .i64 a0_2] 34 ?_; intro gr hg w1 hbox hb; have BR := Aside0.mk hbox; have GR := nge HB hg; replace HB := bst HB hb; have r0 := b0 BR; have r1 := b1 BR; have r2 := b2 BR; clear hg hbox hb) | (go_at_call 54; (with_reducible refine (spec_RulesOk.calls a0_0 a0_1 a0_2 true _ A5.out).mono ?_); rintro e w2 ⟨rfl, hb⟩; replace BR := bkb BR hb; replace HB := bst HB hb; clear hb; clear r0 r1 r2; have r0 := b0 BR; have r1 := b1 BR; have r2 := b2 BR) | (go_at_call 77; (with_reducible refine (spec_l1in.calls a3 0 2000 true _ A6_.out).mono ?_); rintro e w3 ⟨rfl, hd⟩; have hb := Drawn0.below hd; clear hd; replace BR := bkb BR hb; replace HB := bst HB hb; clear hb; clear r0 r1 r2; have r0 := b0 BR; have r1 := b1 BR; have r2 := b2 BR) | (go_at_call 78; (with_reducible refine (spec_l3sets.calls kq A1 c1 l1 a3 true _ (Kd.C_below HR1.out HB.out) HC1.out A7.out).mono ?_); rintro e w4 ⟨rfl, hb⟩; replace BR := bkb BR hb; replace HB := bst HB hb; clear hb; clear r0 r1 r2; have r0 := b0 BR; have r1 := b1 BR; have r2 := b2 BR) | (go_at_call 79; (with_reducible refine (spec_l3fates.calls kq A2 c2 l2 true _ (Kd.C_below HR2.out HB.out) HC2.out A8.out).mono ?_); rintro e w5 ⟨rfl, hd⟩; have hb := Drawn0.below hd; clear hd; replace BR := bkb BR hb; replace HB := bst HB hb; clear hb; clear r0 r1 r2; have r0 := b0 BR; have r1 := b1 BR; have r2 := b2 BR) | ((with_reducible refine gate_dst (N := 44) rfl ?_); refine boxA #[.slice A2 l2.length c2, .int .i64 0, .slice none 0 0, .slice none 0 0] 123 ?_; intro ga hg w6 hbox hb; have NRA := nlt BR hg; have GA := nge HB hg; have BA := Aside0.mk hbox; replace BR := bkb BR hb; replace HB := bst HB hb; clear r0 r1 r2; have r0 := b0 BR; have r1 := b1 BR; have r2 := b2 BR; clear hg hbox hb) | ((with_reducible refine gate_dst (N := 11) rfl ?_); refine boxA #[.int .i64 0, .int .i64 0, .int .i64 0, .int .i64 0, .int .i64 0] 29 ?_; intro gx hg w7 hbox hb; have NRX := nlt BR hg; have NAX := nlt BA hg; have GX := nge HB hg; have BX := Aside0.mk hbox; replace BR := bkb BR hb; replace BA := bkb BA hb; replace HB := bst HB hb; clear r0 r1 r2; have r0 := b0 BR; have r1 := b1 BR; have r2 := b2 BR; clear hg hbox hb) | ((with_reducible refine gate_dst (N := 12) rfl ?_); refine boxA #[.int .i64 0, .int .i64 0, .int .i64 0] 48 ?_; intro gy hg w9 hbox hb; have NRY := nlt BR hg; have NAY := nlt BA hg; have NXY := nlt BX hg; have GY := nge HB hg; have BY := Aside0.mk hbox; replace BR := bkb BR hb; replace BA := bkb BA hb; replace BX := bkb BX hb; replace HB := bst HB hb; clear r0 r1 r2; have r0 := b0 BR; have r1 := b1 BR; have r2 := b2 BR; clear hg hbox hb))
      go_loopg [10, 13] a3.toNat (fun kq v10 v13 w' => ∃ (now : Int) (b : S29) (t : S48) (rB rT : List (List S133)) (n : Int) (sets : List S84) (out : List S86) (dn up : List S146) (vD vU : Value) (N : Nat) (okD okU okO : Nat → Prop), v13 = .int .i64 now ∧ Aside0 (runLoop a0_0 a0_1 a0_2 l2 a3 kq now b t rB rT n sets out = r) ∧ Aside0 (SetsAt l1 a3 now sets) ∧ Aside0 (1 ≤ now ∧ now + kq = a3 + 1 ∧ 0 ≤ n ∧ n ≤ 1001 * (now - 1) ∧ dn.length ≤ 10 * min n.toNat l2.length ∧ up.length ≤ 10 * min n.toNat l2.length ∧ out.length + 1 = now.toNat ∧ (rB.length : Int) = a3 + 1 ∧ (rT.length : Int) = a3 + 1) ∧ Aside0 (Air now a3 dn rT ∧ Air now a3 up rB) ∧ Aside0 (SI w w' N (fun k => k = gr ∨ k = ga ∨ k = gx ∨ k = gy) okD okU okO vD vU v10 dn up out) ∧ Aside0 (w'.heap[gr]? = some (.cells #[.int .i64 a0_0, .int .i64 a0_1, .int .i64 a0_2] 34 (0, 0))) ∧ Aside0 (w'.heap[ga]? = some (.cells #[.slice A2 l2.length c2, .int .i64 n, vD, vU] 123 (0, 0))) ∧ Aside0 (w'.heap[gx]? = some (.cells #[.int .i64 b.f0, .int .i64 b.f1, .int .i64 b.f2, .int .i64 b.f3, .int .i64 b.f4] 29 (0, 0))) ∧ Aside0 (w'.heap[gy]? = some (.cells #[.int .i64 t.f0, .int .i64 t.f1, .int .i64 t.f2] 48 (0, 0))))
      case atStart =>
       have hGR := GR.out
       have hGA := GA.out
       have hGX := GX.out
       have hGY := GY.out
       have ht0 := HG.out.t0
       refine ⟨1, z29, z48, List.replicate (a3 + 1).toNat [], List.replicate (a3 + 1).toNat [], 0, l1, [], [], [], .slice none 0 0, .slice none 0 0, w9.heap.size, fun _ => False, fun _ => False, fun _ => False, rfl, HL2, ⟨SetsAt.start HG.out.rise⟩, ⟨by omega, by omega, by omega, by omega, by simp, by simp, rfl, by simp; omega, by simp; omega⟩, ⟨air_start a3 _, air_start a3 _⟩, ⟨⟨Kd.R_nil _ _ _ _ _, Kd.R_nil _ _ _ _ _, Kd.R_nil _ _ _ _ _, fun _ h => h.elim, fun _ h => h.elim, fun _ h => h.elim, fun _ h => h.elim, fun _ h => h.elim, fun _ h => h.elim, Nat.le_refl _, HB.out.size, fun k hk => ?_, fun k hk => ?_, HB.out⟩⟩, BR, BA, BX, BY⟩
       ·rcases hk with rfl | rfl | rfl | rfl <;> assumption
       ·have h1 := blk_lt BR.out; have h2 := blk_lt BA.out; have h3 := blk_lt BX.out; have h4 := blk_lt BY.out; rcases hk with rfl | rfl | rfl | rfl <;> assumption
      case round =>
       clear BR BA BX BY r0 r1 r2 HB HL2
       obtain ⟨now, b, t, rB, rT, n, sets, out, dn, up, vD, vU, N0, okD, okU, okO, rfl, HA, HSA, HJ, HAIR, HI0, BR, BA, BX, BY⟩ := hrel
       obtain ⟨Ad, cd, hvd⟩ := Kd.R_slice HI0.out.hD
       subst hvd
       obtain ⟨Au, cu, hvu⟩ := Kd.R_slice HI0.out.hU
       subst hvu
       have HI := Aside0.mk HI0.out.wide
       obtain ⟨N, hN⟩ : ∃ x, x = wr.heap.size := ⟨_, rfl⟩
       have LR := Aside0.mk (hN ▸ blk_lt BR.out)
       have LA := Aside0.mk (hN ▸ blk_lt BA.out)
       have LX := Aside0.mk (hN ▸ blk_lt BX.out)
       have LY := Aside0.mk (hN ▸ blk_lt BY.out)
       cases gk with
       | zero =>
        have d0 : decide (now ≤ a3) = false := decide_eq_false (by have := HJ.out; omega)
        have HRR : Aside0 (out = r) := ⟨HA.out⟩
        go_wp2
        go_ret
        exact ⟨_, rfl, by rw [← HRR.out]; exact Kd.R_mono HI.out.hO (fun _ _ => trivial), HI.out.below⟩
       | succ k1 =>
        have d0 : decide (now ≤ a3) = true := decide_eq_true (by have := HJ.out; omega)
        rw [← hN] at HI
        obtain ⟨ex, hex⟩ : ∃ e : Nat → Prop, e = (fun k => (k = gr ∨ k = ga ∨ k = gx ∨ k = gy) ∨ N0 ≤ k ∧ k < N) := ⟨_, rfl⟩
        have XR : Aside0 (ex gr) := ⟨by rw [hex]; simp⟩
        have XA : Aside0 (ex ga) := ⟨by rw [hex]; simp⟩
        have XX : Aside0 (ex gx) := ⟨by rw [hex]; simp⟩
        have XY : Aside0 (ex gy) := ⟨by rw [hex]; simp⟩
        have HEX : Aside0 (∀ k, (k = gr ∨ k = ga ∨ k = gx ∨ k = gy) → ex k) := ⟨fun k hk => by rw [hex]; exact .inl hk⟩
        rw [← hex] at HI
        clear hex hN HI0
        go_wp2
        go_loopg [14, 52] l1.length (fun kq v14 v52 w' => ∃ (x : Int) (vs : List Int), v52 = .int .i64 x ∧ Aside0 (0 ≤ x ∧ x.toNat + kq = l1.length ∧ vs ++ atT now (l1.drop x.toNat) = atT now l1 ∧ vs.length ≤ x.toNat) ∧ Aside0 (Kd.R (Kd.int .i64) 2 w' w.heap.size (fun k => N ≤ k) v14 vs) ∧ Aside0 (SI w w' N ex okD okU okO (.slice Ad dn.length cd) (.slice Au up.length cu) u10 dn up out) ∧ Aside0 (w'.heap[gr]? = some (.cells #[.int .i64 a0_0, .int .i64 a0_1, .int .i64 a0_2] 34 (0, 0))) ∧ Aside0 (w'.heap[ga]? = some (.cells #[.slice A2 l2.length c2, .int .i64 n, .slice Ad dn.length cd, .slice Au up.length cu] 123 (0, 0))) ∧ Aside0 (w'.heap[gx]? = some (.cells #[.int .i64 b.f0, .int .i64 b.f1, .int .i64 b.f2, .int .i64 b.f3, .int .i64 b.f4] 29 (0, 0))) ∧ Aside0 (w'.heap[gy]? = some (.cells #[.int .i64 t.f0, .int .i64 t.f1, .int .i64 t.f2] 48 (0, 0))))
        case atStart => exact ⟨0, [], rfl, ⟨by omega, by simp, by simp, by simp⟩, ⟨Kd.R_nil _ _ _ _ _⟩, HI, BR, BA, BX, BY⟩
        case round =>
         clear BR BA BX BY HI
         obtain ⟨x, vs, rfl, HV, HO, HI, BR, BA, BX, BY⟩ := hrel
         by_cases hx : x < (l1.length : Int)
         ·obtain ⟨k2, rfl⟩ : ∃ k2, gk = k2 + 1 := ⟨gk - 1, by have := HV.out; omega⟩
          have d1 : decide (x < (l1.length : Int)) = true := decide_eq_true hx
          obtain ⟨ad, ead, hx0', hx1'⟩ := at_T84 HR1.out x HV.out.1 hx
          cases ead
          have hx0 := (HI.out.below.cell (World.block_lt_of_cell? w _ hx0')).trans hx0'
          have hx1 := (HI.out.below.cell (World.block_lt_of_cell? w _ hx1')).trans hx1'
          have p1 : (0 ≤ x) = True := eq_true HV.out.1
          have q1 : (x < (l1.length : Int)) = True := eq_true hx
          have wx : wrap64 (x + 1) = x + 1 := Go.Proofs.Ytndffnacbfdnoaa.Plain.w64 (by have := HV.out; omega) (by have := HZ.out; omega)
          have HLX := Aside0.mk hx
          clear hx0' hx1' hx
          go_upto_region 14 with (first | ((with_reducible refine gate_dst (N := 16) rfl ?_); refine boxA #[.int .i64 0, .int .i64 0] 84 ?_; intro gs hg w2 hbox hb; have NRS := nlt BR hg; have NAS := nlt BA hg; have NXS := nlt BX hg; have NYS := nlt BY hg; have NGS : Aside0 (N ≤ gs) := ⟨by rw [hg]; exact HI.out.hN⟩; have BS := Aside0.mk hbox; replace HI := Aside0.mk (SI.go HI.out hb); replace BR := bkb BR hb; replace BA := bkb BA hb; replace BX := bkb BX hb; replace BY := bkb BY hb; have HO2 := Aside0.mk (R_apart HO.out hg hb); clear HO; have y0 := b0 BS; have y1 := b1 BS; have e0 := blk_frozen BS.out 0; have e1 := blk_frozen BS.out 1; clear hx0 hx1; clear hg hbox hb))
          clear y0 y1 e0 e1 p1 q1 d1
          replace HI := Aside0.mk (SI.set (j := 1) (SI.set (j := 0) (HI.out) (.inr NGS.out) (.int .i64 (rd_T84 l1 x).f0)) (.inr NGS.out) (.int .i64 (rd_T84 l1 x).f1))
          replace BR := Aside0.mk (blk_far (p := ⟨gs, 1, none⟩) (blk_far (p := ⟨gs, 0, none⟩) (BR.out) (NRS.out) (.int .i64 (rd_T84 l1 x).f0)) (NRS.out) (.int .i64 (rd_T84 l1 x).f1))
          replace BA := Aside0.mk (blk_far (p := ⟨gs, 1, none⟩) (blk_far (p := ⟨gs, 0, none⟩) (BA.out) (NAS.out) (.int .i64 (rd_T84 l1 x).f0)) (NAS.out) (.int .i64 (rd_T84 l1 x).f1))
          replace BX := Aside0.mk (blk_far (p := ⟨gs, 1, none⟩) (blk_far (p := ⟨gs, 0, none⟩) (BX.out) (NXS.out) (.int .i64 (rd_T84 l1 x).f0)) (NXS.out) (.int .i64 (rd_T84 l1 x).f1))
          replace BY := Aside0.mk (blk_far (p := ⟨gs, 1, none⟩) (blk_far (p := ⟨gs, 0, none⟩) (BY.out) (NYS.out) (.int .i64 (rd_T84 l1 x).f0)) (NYS.out) (.int .i64 (rd_T84 l1 x).f1))
          replace BS := Aside0.mk (blk_put (cs := #[.int .i64 (rd_T84 l1 x).f0, .int .i64 0]) (cs' := #[.int .i64 (rd_T84 l1 x).f0, .int .i64 (rd_T84 l1 x).f1]) (blk_put (cs := #[.int .i64 0, .int .i64 0]) (cs' := #[.int .i64 (rd_T84 l1 x).f0, .int .i64 0]) (BS.out) 0 (.int .i64 (rd_T84 l1 x).f0) rfl) 1 (.int .i64 (rd_T84 l1 x).f1) rfl)
          replace HO2 := Aside0.mk (Kd.R_far (p := ⟨gs, 1, none⟩) (Kd.R_far (p := ⟨gs, 0, none⟩) (HO2.out) ((fun _ h => h.2)) (.int .i64 (rd_T84 l1 x).f0)) ((fun _ h => h.2)) (.int .i64 (rd_T84 l1 x).f1))
          generalize ((w2.setCell ⟨gs, 0, none⟩ (.int .i64 (rd_T84 l1 x).f0)).setCell ⟨gs, 1, none⟩ (.int .i64 (rd_T84 l1 x).f1)) = w3 at HI BR BA BX BY BS HO2 ⊢
          have HO : Aside0 (Kd.R (Kd.int .i64) 2 w3 w.heap.size (fun k => N ≤ k) u14 vs) := ⟨Kd.R_mono HO2.out (fun _ h => h.1)⟩
          clear HO2
          have s0 := b0 BS
          have s1 := b1 BS
          have HE2 := Aside0.mk HI.out.hN
          by_cases hq : (rd_T84 l1 x).f0 = now
          ·have d2 : ((rd_T84 l1 x).f0 == now) = true := by simpa using hq
           have HVN : Aside0 ((vs ++ [(rd_T84 l1 x).f1]) ++ atT now (l1.drop (x + 1).toNat) = atT now l1) := ⟨by rw [← HV.out.2.2.1, drop84 HV.out.1 HLX.out, atT_cons, if_pos hq]; simp⟩
           clear hq
           go_wp2_with (first | ((with_reducible refine gate_builtin (b := .append) (xs := #[.tmp 60, .tmp 63]) rfl ?_); at_builtin; refine Kd.R_append (Kd.int .i64) (w0 := w) w.heap.size rfl (.tmp 60) (.tmp 63) 26 2 (.int .i64 0) 8 rfl Try.underlying26 info2 rfl (by decide) (by decide) u14 vs (rd_T84 l1 x).f1 [.int .i64 (rd_T84 l1 x).f1] (fun k => N ≤ k) (fun _ => False) rfl (by first | (go_simp; done) | (go_simp; rfl)) rfl (fun _ h => h.elim) (fun k hk => Nat.le_trans HE2.out hk) HO.out HI.out.below HI.out.size (by have := HV.out; have := HZ.out; omega) ?_; intro v2 w4 ho hb hg hat; have nr := HO.out.1; replace HI := Aside0.mk (SI.grown HI.out hg nr hb); replace BR := Aside0.mk (blk_grown BR.out hg (fun e => absurd (nr _ e.symm) (Nat.not_le_of_lt LR.out))); replace BA := Aside0.mk (blk_grown BA.out hg (fun e => absurd (nr _ e.symm) (Nat.not_le_of_lt LA.out))); replace BX := Aside0.mk (blk_grown BX.out hg (fun e => absurd (nr _ e.symm) (Nat.not_le_of_lt LX.out))); replace BY := Aside0.mk (blk_grown BY.out hg (fun e => absurd (nr _ e.symm) (Nat.not_le_of_lt LY.out))); replace HO := Aside0.mk ho; clear ho hb hg hat nr s0 s1 HE2))
           go_roundg k2
           case measure => omega
           case rel =>
            have hv := HV.out
            have hlx := HLX.out
            exact ⟨x + 1, vs ++ [(rd_T84 l1 x).f1], by first | rfl | rw [wx], ⟨by omega, by omega, HVN.out, by simp; omega⟩, HO, HI, BR, BA, BX, BY⟩
          ·have d2 : ((rd_T84 l1 x).f0 == now) = false := by simpa using hq
           have HVN : Aside0 (vs ++ atT now (l1.drop (x + 1).toNat) = atT now l1) := ⟨by rw [← HV.out.2.2.1, drop84 HV.out.1 HLX.out, atT_cons, if_neg hq]⟩
           clear hq
           go_wp2
           go_roundg k2
           case measure => omega
           case rel =>
            have hv := HV.out
            have hlx := HLX.out
            exact ⟨x + 1, vs, by first | rfl | rw [wx], ⟨by omega, by omega, HVN.out, by omega⟩, HO, HI, BR, BA, BX, BY⟩
         ·have d1 : decide (x < (l1.length : Int)) = false := decide_eq_false hx
          have HVS : Aside0 (vs = (vals now sets).1) := ⟨by
           have h := HV.out.2.2.1
           rw [List.drop_of_length_le (by have := HV.out; omega)] at h
           rw [HSA.out.vals, ← h]
           simp [atT]⟩
          have HVL : Aside0 (vs.length ≤ 1048576) := ⟨by have := HV.out; have := HZ.out; omega⟩
          clear hx
          go_wp2
          clear d1
          obtain ⟨Av, cv, hvv⟩ := Kd.R_slice HO.out
          subst hvv
          have HLC := Aside0.mk (Kd.R_reads' HI.out.hU).2.2
          have HLE := Aside0.mk (Kd.R_reads' HI.out.hU).2.1
          have HLB : Aside0 (up.length ≤ 50000) := ⟨by have := HJ.out; have := HG.out.n2; omega⟩
          obtain ⟨kp, hkp⟩ : ∃ k, 1200000 < k := ⟨1200001, by omega⟩
          have HKP := Aside0.mk (due_is up now (by have := HLB.out; omega) kp (by have := HLB.out; omega))
          obtain ⟨ps, hps⟩ : ∃ x, x = dueL now up := ⟨_, rfl⟩
          have HPL : Aside0 (ps.length ≤ 50000) := ⟨by have := dueL_len now up; have := HLB.out; rw [hps]; omega⟩
          have HPS : Aside0 (ps = pks (rB.getD now.toNat [])) := ⟨by rw [hps]; exact HAIR.out.2 now (by omega) (by have := HJ.out; omega)⟩
          rw [← hps] at HKP
          clear hps
          obtain ⟨X, hX⟩ : ∃ x, x = boxF a0_0 a0_1 a0_2 now b vs ps := ⟨_, rfl⟩
          have HKB := Aside0.mk (spec_box_is a0_0 a0_1 a0_2 now b vs ps HVL.out (by have := HPL.out; omega) kp (by have := HPL.out; have := HVL.out; omega))
          rw [← hX] at HKB
          have HX := Aside0.mk hX
          clear hX hkp
          obtain ⟨x1, x2, x3, x4, x5, x6, xs⟩ := X
          replace HI := Aside0.mk (SI.drew HI.out)
          replace BR := Aside0.mk (blk_drew BR.out)
          replace BA := Aside0.mk (blk_drew BA.out)
          replace BX := Aside0.mk (blk_drew BX.out)
          replace BY := Aside0.mk (blk_drew BY.out)
          replace HO := Aside0.mk (Kd.R_drew HO.out)
          replace HLC := Aside0.mk (Kd.C_drew HLC.out)
          refine start_ (n := 13) (S := fun w' => w'.cell? ⟨gr, 0, none⟩ = some (.int .i64 a0_0) ∧ w'.cell? ⟨gr, 1, none⟩ = some (.int .i64 a0_1) ∧ w'.cell? ⟨gr, 2, none⟩ = some (.int .i64 a0_2) ∧ w'.cell? ⟨gx, 0, none⟩ = some (.int .i64 b.f0) ∧ w'.cell? ⟨gx, 1, none⟩ = some (.int .i64 b.f1) ∧ w'.cell? ⟨gx, 2, none⟩ = some (.int .i64 b.f2) ∧ w'.cell? ⟨gx, 3, none⟩ = some (.int .i64 b.f3) ∧ w'.cell? ⟨gx, 4, none⟩ = some (.int .i64 b.f4) ∧ w'.cell? ⟨ga, 3, none⟩ = some (.slice Au up.length cu)) (ds := [12]) #[false, false, false, false, false, false, false, false, false, false, false, false, false] (by kernel_rfl) rfl rfl ⟨b0 BR, b1 BR, b2 BR, b0 BX, b1 BX, b2 BX, b3 BX, b4 BX, b3 BA⟩ (fun hHeld => ?_)
          generalize wr.drew = wd at HI BR BA BX BY HLC HO hHeld ⊢
          refine takeA 0 66 #[true, false, false, false, false, false, false, false, false, false, false, false, false] (by kernel_rfl) hHeld ?_
          refine pureA 1 67 #[true, true, false, false, false, false, false, false, false, false, false, false, false] (by kernel_rfl) ?_
          refine takeA 2 68 #[true, true, true, false, false, false, false, false, false, false, false, false, false] (by kernel_rfl) hHeld ?_
          refine pureA 3 69 #[true, true, true, true, false, false, false, false, false, false, false, false, false] (by kernel_rfl) ?_
          refine pureA 4 70 #[true, true, true, true, true, false, false, false, false, false, false, false, false] (by kernel_rfl) ?_
          refine pureA 5 71 #[true, true, true, true, true, true, false, false, false, false, false, false, false] (by kernel_rfl) ?_
          refine pureA 6 72 #[true, true, true, true, true, true, true, false, false, false, false, false, false] (by kernel_rfl) ?_
          refine takeA 7 73 #[true, true, true, true, true, true, true, true, false, false, false, false, false] (by kernel_rfl) hHeld ?_
          refine pureA 8 74 #[true, true, true, true, true, true, true, true, true, false, false, false, false] (by kernel_rfl) ?_
          clear hHeld
          refine join_ (σ := Value × Value × Nat) 1 #[true, true, true, true, true, true, true, true, true, true, true, true, false] (fun s_ => [(75, s_.1), (76, (.agg #[.bool x1, .int .i64 x2, .int .i64 x3, .int .i64 x4, .int .i64 x5, .int .i64 x6, s_.2.1])), (17, .pointer (some ⟨s_.2.2, 0, none⟩))]) (fun s_ w' => (fun w' => w'.cell? ⟨gr, 0, none⟩ = some (.int .i64 a0_0) ∧ w'.cell? ⟨gr, 1, none⟩ = some (.int .i64 a0_1) ∧ w'.cell? ⟨gr, 2, none⟩ = some (.int .i64 a0_2) ∧ w'.cell? ⟨gx, 0, none⟩ = some (.int .i64 b.f0) ∧ w'.cell? ⟨gx, 1, none⟩ = some (.int .i64 b.f1) ∧ w'.cell? ⟨gx, 2, none⟩ = some (.int .i64 b.f2) ∧ w'.cell? ⟨gx, 3, none⟩ = some (.int .i64 b.f3) ∧ w'.cell? ⟨gx, 4, none⟩ = some (.int .i64 b.f4) ∧ w'.cell? ⟨ga, 3, none⟩ = some (.slice Au up.length cu)) w' ∧ SI w w' N ex okD okU okO (.slice Ad dn.length cd) (.slice Au up.length cu) u10 dn up out ∧ w'.heap[gr]? = some (.cells #[.int .i64 a0_0, .int .i64 a0_1, .int .i64 a0_2] 34 (0, 0)) ∧ w'.heap[ga]? = some (.cells #[.slice A2 l2.length c2, .int .i64 n, .slice Ad dn.length cd, .slice Au up.length cu] 123 (0, 0)) ∧ w'.heap[gx]? = some (.cells #[.int .i64 b.f0, .int .i64 b.f1, .int .i64 b.f2, .int .i64 b.f3, .int .i64 b.f4] 29 (0, 0)) ∧ w'.heap[gy]? = some (.cells #[.int .i64 t.f0, .int .i64 t.f1, .int .i64 t.f2] 48 (0, 0)) ∧ Kd.R k60 60 w' w.heap.size (fun k => N ≤ k ∧ k ≠ s_.2.2) s_.2.1 xs ∧ w'.heap[s_.2.2]? = some (.cells #[.bool false, .int .i64 0, .int .i64 0, .int .i64 0, .int .i64 0, .int .i64 0, .slice none 0 0] 32 (0, 0)) ∧ N ≤ s_.2.2) ?_ ?_
          rotate_left
          ·intro hCont
           refine two_ (i := 9) (j := 11) (Ni := some 75) (Nj := some 17) #[true, true, true, true, true, true, true, true, true, true, false, false, false] #[true, true, true, true, true, true, true, true, true, false, false, true, false] rfl rfl rfl rfl (by kernel_rfl) (by decide) (by decide) (fun K hK => ?_) (fun K hK => ?_)
           ·skip
            refine goesA Try.func80 #[.slice Au up.length cu, .int .i64 now] ?_
            refine (spec_l3due.calls kp Au cu up now ps _ HLC.out HLE.out HKP.out).mono ?_
            rintro e w1_p ⟨v75, rfl, hp, hb⟩
            refine ⟨_, rfl, ?_⟩
            have HP := Aside0.mk hp
            replace HI := Aside0.mk (SI.go HI.out hb); replace BR := bkb BR hb; replace BA := bkb BA hb; replace BX := bkb BX hb; replace BY := bkb BY hb; replace HLC := Aside0.mk (Kd.C_below HLC.out hb); replace HO := Aside0.mk (Kd.R_below HO.out hb)
            clear hp hb
            obtain ⟨Ap, cp, hvp⟩ := Kd.R_slice HP.out
            subst hvp
            refine hK.out _ _ ⟨b0 BR, b1 BR, b2 BR, b0 BX, b1 BX, b2 BX, b3 BX, b4 BX, b3 BA⟩ (fun hHeld => ?_)
            clear hK K hHeld
            refine normP ?_
            refine two_ (i := 10) (j := 11) (Ni := some 76) (Nj := some 17) #[true, true, true, true, true, true, true, true, true, true, true, false, false] #[true, true, true, true, true, true, true, true, true, true, false, true, false] rfl rfl rfl rfl (by kernel_rfl) (by decide) (by decide) (fun K hK => ?_) (fun K hK => ?_)
            ·skip
             have hrp := Kd.R_reads' HP.out
             have hrv := Kd.R_reads' HO.out
             refine goesA Try.func12 #[.agg #[.int .i64 a0_0, .int .i64 a0_1, .int .i64 a0_2], .int .i64 now, .agg #[.int .i64 b.f0, .int .i64 b.f1, .int .i64 b.f2, .int .i64 b.f3, .int .i64 b.f4], .slice Av vs.length cv, .slice Ap ps.length cp] ?_
             refine (spec_BoxTick.calls kp a0_0 a0_1 a0_2 now b.f0 b.f1 b.f2 b.f3 b.f4 Av cv vs Ap cp ps x1 x2 x3 x4 x5 x6 xs _ hrv.2.2 hrv.2.1 hrp.2.2 hrp.2.1 HKB.out).mono ?_
             rintro e w2_pc ⟨v6, rfl, h6, hb⟩
             refine ⟨_, rfl, ?_⟩
             have hbN : N ≤ w1_p.heap.size := HI.out.hN
             have hbw : w.heap.size ≤ w1_p.heap.size := HI.out.size
             have H6 : Aside0 (Kd.R k60 60 w2_pc w.heap.size (fun k => N ≤ k) v6 xs) := ⟨Kd.R_lower (Kd.R_mono (Kd.R_bound h6) (fun k hk => Nat.le_trans hbN hk.2.1)) hbw⟩
             replace HI := Aside0.mk (SI.go HI.out hb); replace BR := bkb BR hb; replace BA := bkb BA hb; replace BX := bkb BX hb; replace BY := bkb BY hb; replace HLC := Aside0.mk (Kd.C_below HLC.out hb)
             clear h6 hb hbN hbw hrp HP hrv HO
             refine hK.out _ _ ⟨b0 BR, b1 BR, b2 BR, b0 BX, b1 BX, b2 BX, b3 BX, b4 BX, b3 BA⟩ (fun hHeld => ?_)
             clear hK K hHeld
             refine normP ?_
             refine one_ (i := 11) (N := some 17) #[true, true, true, true, true, true, true, true, true, true, true, true, false] rfl rfl (by kernel_rfl) (by decide) (fun K hK => ?_)
             refine event_step (w1 := w2_pc.alloc (.cells #[.bool false, .int .i64 0, .int .i64 0, .int .i64 0, .int .i64 0, .int .i64 0, .slice none 0 0] 32)) (v := .pointer (some ⟨w2_pc.heap.size, 0, none⟩)) (by rfl) (by first | (go_simp; done) | (go_simp; rfl)) ?_
             have hb := below_alloc (Below.refl w2_pc.heap.size w2_pc) (.cells #[.bool false, .int .i64 0, .int .i64 0, .int .i64 0, .int .i64 0, .int .i64 0, .slice none 0 0] 32)
             have HG2 := Aside0.mk (blk_new w2_pc (.cells #[.bool false, .int .i64 0, .int .i64 0, .int .i64 0, .int .i64 0, .int .i64 0, .slice none 0 0] 32))
             have NG := Aside0.mk HI.out.hN
             have H6' : Aside0 (Kd.R k60 60 w2_pc w.heap.size (fun k => N ≤ k ∧ k ≠ w2_pc.heap.size) v6 xs) := ⟨Kd.R_elderB H6.out _ (Nat.le_refl _)⟩
             clear H6
             have H6 := H6'
             clear H6'
             replace HI := Aside0.mk (SI.go HI.out hb); replace BR := bkb BR hb; replace BA := bkb BA hb; replace BX := bkb BX hb; replace BY := bkb BY hb; replace HLC := Aside0.mk (Kd.C_below HLC.out hb); replace H6 := Aside0.mk (Kd.R_below H6.out hb)
             clear hb
             generalize w2_pc.alloc (.cells #[.bool false, .int .i64 0, .int .i64 0, .int .i64 0, .int .i64 0, .int .i64 0, .slice none 0 0] 32) = w3_cpa at HI BR BA BX BY HLC HG2 H6 ⊢
             obtain ⟨g19, hg19⟩ : ∃ x, x = w2_pc.heap.size := ⟨_, rfl⟩
             rw [← hg19] at HG2 NG H6 ⊢
             clear hg19
             refine hK.out _ _ ⟨b0 BR, b1 BR, b2 BR, b0 BX, b1 BX, b2 BX, b3 BX, b4 BX, b3 BA⟩ (fun hHeld => ?_)
             clear hK K hHeld
             refine norm_ (a' := ?_) ?_ ?_
             rotate_left
             ·show Act.put _ (some 17) _ = _
              simp only [Act.put, List.setIfInBounds_toArray, List.set_cons_zero, List.set_cons_succ, i64_w, i32_w]
              rfl
             exact norm_ (by simp only [putAll, Act.put, List.setIfInBounds_toArray, List.set_cons_zero, List.set_cons_succ]) (hCont (.slice Ap ps.length cp, v6, g19) _ ⟨⟨b0 BR, b1 BR, b2 BR, b0 BX, b1 BX, b2 BX, b3 BX, b4 BX, b3 BA⟩, HI.out, BR.out, BA.out, BX.out, BY.out, H6.out, HG2.out, NG.out⟩)
            ·skip
             refine event_step (w1 := w1_p.alloc (.cells #[.bool false, .int .i64 0, .int .i64 0, .int .i64 0, .int .i64 0, .int .i64 0, .slice none 0 0] 32)) (v := .pointer (some ⟨w1_p.heap.size, 0, none⟩)) (by rfl) (by first | (go_simp; done) | (go_simp; rfl)) ?_
             have hb := below_alloc (Below.refl w1_p.heap.size w1_p) (.cells #[.bool false, .int .i64 0, .int .i64 0, .int .i64 0, .int .i64 0, .int .i64 0, .slice none 0 0] 32)
             have HG2 := Aside0.mk (blk_new w1_p (.cells #[.bool false, .int .i64 0, .int .i64 0, .int .i64 0, .int .i64 0, .int .i64 0, .slice none 0 0] 32))
             have NG := Aside0.mk HI.out.hN
             replace HI := Aside0.mk (SI.go HI.out hb); replace BR := bkb BR hb; replace BA := bkb BA hb; replace BX := bkb BX hb; replace BY := bkb BY hb; replace HLC := Aside0.mk (Kd.C_below HLC.out hb); replace HO := Aside0.mk (Kd.R_below HO.out hb); replace HP := Aside0.mk (Kd.R_below HP.out hb)
             clear hb
             generalize w1_p.alloc (.cells #[.bool false, .int .i64 0, .int .i64 0, .int .i64 0, .int .i64 0, .int .i64 0, .slice none 0 0] 32) = w2_pa at HI BR BA BX BY HLC HG2 HO HP ⊢
             obtain ⟨g19, hg19⟩ : ∃ x, x = w1_p.heap.size := ⟨_, rfl⟩
             rw [← hg19] at HG2 NG ⊢
             clear hg19
             refine hK.out _ _ ⟨b0 BR, b1 BR, b2 BR, b0 BX, b1 BX, b2 BX, b3 BX, b4 BX, b3 BA⟩ (fun hHeld => ?_)
             clear hK K hHeld
             refine norm_ (a' := ?_) ?_ ?_
             rotate_left
             ·show Act.put _ (some 17) _ = _
              simp only [Act.put, List.setIfInBounds_toArray, List.set_cons_zero, List.set_cons_succ, i64_w, i32_w]
              rfl
             refine one_ (i := 10) (N := some 76) #[true, true, true, true, true, true, true, true, true, true, true, true, false] rfl rfl (by kernel_rfl) (by decide) (fun K hK => ?_)
             have hrp := Kd.R_reads' HP.out
             have hrv := Kd.R_reads' HO.out
             refine goesA Try.func12 #[.agg #[.int .i64 a0_0, .int .i64 a0_1, .int .i64 a0_2], .int .i64 now, .agg #[.int .i64 b.f0, .int .i64 b.f1, .int .i64 b.f2, .int .i64 b.f3, .int .i64 b.f4], .slice Av vs.length cv, .slice Ap ps.length cp] ?_
             refine (spec_BoxTick.calls kp a0_0 a0_1 a0_2 now b.f0 b.f1 b.f2 b.f3 b.f4 Av cv vs Ap cp ps x1 x2 x3 x4 x5 x6 xs _ hrv.2.2 hrv.2.1 hrp.2.2 hrp.2.1 HKB.out).mono ?_
             rintro e w3_apc ⟨v6, rfl, h6, hb⟩
             refine ⟨_, rfl, ?_⟩
             have hbN : N ≤ w2_pa.heap.size := HI.out.hN
             have hbw : w.heap.size ≤ w2_pa.heap.size := HI.out.size
             have hgl := blk_lt HG2.out
             have H6 : Aside0 (Kd.R k60 60 w3_apc w.heap.size (fun k => N ≤ k ∧ k ≠ g19) v6 xs) := ⟨Kd.R_lower (Kd.R_mono (Kd.R_bound h6) (fun k hk => ⟨Nat.le_trans hbN hk.2.1, by have := hk.2.1; omega⟩)) hbw⟩
             clear hgl
             replace HI := Aside0.mk (SI.go HI.out hb); replace BR := bkb BR hb; replace BA := bkb BA hb; replace BX := bkb BX hb; replace BY := bkb BY hb; replace HLC := Aside0.mk (Kd.C_below HLC.out hb); replace HG2 := bkb HG2 hb
             clear h6 hb hbN hbw hrp HP hrv HO
             refine hK.out _ _ ⟨b0 BR, b1 BR, b2 BR, b0 BX, b1 BX, b2 BX, b3 BX, b4 BX, b3 BA⟩ (fun hHeld => ?_)
             clear hK K hHeld
             refine normP ?_
             exact norm_ (by simp only [putAll, Act.put, List.setIfInBounds_toArray, List.set_cons_zero, List.set_cons_succ]) (hCont (.slice Ap ps.length cp, v6, g19) _ ⟨⟨b0 BR, b1 BR, b2 BR, b0 BX, b1 BX, b2 BX, b3 BX, b4 BX, b3 BA⟩, HI.out, BR.out, BA.out, BX.out, BY.out, H6.out, HG2.out, NG.out⟩)
           ·skip
            refine event_step (w1 := wd.alloc (.cells #[.bool false, .int .i64 0, .int .i64 0, .int .i64 0, .int .i64 0, .int .i64 0, .slice none 0 0] 32)) (v := .pointer (some ⟨wd.heap.size, 0, none⟩)) (by rfl) (by first | (go_simp; done) | (go_simp; rfl)) ?_
            have hb := below_alloc (Below.refl wd.heap.size wd) (.cells #[.bool false, .int .i64 0, .int .i64 0, .int .i64 0, .int .i64 0, .int .i64 0, .slice none 0 0] 32)
            have HG2 := Aside0.mk (blk_new wd (.cells #[.bool false, .int .i64 0, .int .i64 0, .int .i64 0, .int .i64 0, .int .i64 0, .slice none 0 0] 32))
            have NG := Aside0.mk HI.out.hN
            replace HI := Aside0.mk (SI.go HI.out hb); replace BR := bkb BR hb; replace BA := bkb BA hb; replace BX := bkb BX hb; replace BY := bkb BY hb; replace HLC := Aside0.mk (Kd.C_below HLC.out hb); replace HO := Aside0.mk (Kd.R_below HO.out hb)
            clear hb
            generalize wd.alloc (.cells #[.bool false, .int .i64 0, .int .i64 0, .int .i64 0, .int .i64 0, .int .i64 0, .slice none 0 0] 32) = w1_a at HI BR BA BX BY HLC HG2 HO ⊢
            obtain ⟨g19, hg19⟩ : ∃ x, x = wd.heap.size := ⟨_, rfl⟩
            rw [← hg19] at HG2 NG ⊢
            clear hg19
            refine hK.out _ _ ⟨b0 BR, b1 BR, b2 BR, b0 BX, b1 BX, b2 BX, b3 BX, b4 BX, b3 BA⟩ (fun hHeld => ?_)
            clear hK K hHeld
            refine norm_ (a' := ?_) ?_ ?_
            rotate_left
            ·show Act.put _ (some 17) _ = _
             simp only [Act.put, List.setIfInBounds_toArray, List.set_cons_zero, List.set_cons_succ, i64_w, i32_w]
             rfl
            refine one_ (i := 9) (N := some 75) #[true, true, true, true, true, true, true, true, true, true, false, true, false] rfl rfl (by kernel_rfl) (by decide) (fun K hK => ?_)
            refine goesA Try.func80 #[.slice Au up.length cu, .int .i64 now] ?_
            refine (spec_l3due.calls kp Au cu up now ps _ HLC.out HLE.out HKP.out).mono ?_
            rintro e w2_ap ⟨v75, rfl, hp, hb⟩
            refine ⟨_, rfl, ?_⟩
            have HP := Aside0.mk hp
            replace HI := Aside0.mk (SI.go HI.out hb); replace BR := bkb BR hb; replace BA := bkb BA hb; replace BX := bkb BX hb; replace BY := bkb BY hb; replace HLC := Aside0.mk (Kd.C_below HLC.out hb); replace HO := Aside0.mk (Kd.R_below HO.out hb); replace HG2 := bkb HG2 hb
            clear hp hb
            obtain ⟨Ap, cp, hvp⟩ := Kd.R_slice HP.out
            subst hvp
            refine hK.out _ _ ⟨b0 BR, b1 BR, b2 BR, b0 BX, b1 BX, b2 BX, b3 BX, b4 BX, b3 BA⟩ (fun hHeld => ?_)
            clear hK K hHeld
            refine normP ?_
            refine one_ (i := 10) (N := some 76) #[true, true, true, true, true, true, true, true, true, true, true, true, false] rfl rfl (by kernel_rfl) (by decide) (fun K hK => ?_)
            have hrp := Kd.R_reads' HP.out
            have hrv := Kd.R_reads' HO.out
            refine goesA Try.func12 #[.agg #[.int .i64 a0_0, .int .i64 a0_1, .int .i64 a0_2], .int .i64 now, .agg #[.int .i64 b.f0, .int .i64 b.f1, .int .i64 b.f2, .int .i64 b.f3, .int .i64 b.f4], .slice Av vs.length cv, .slice Ap ps.length cp] ?_
            refine (spec_BoxTick.calls kp a0_0 a0_1 a0_2 now b.f0 b.f1 b.f2 b.f3 b.f4 Av cv vs Ap cp ps x1 x2 x3 x4 x5 x6 xs _ hrv.2.2 hrv.2.1 hrp.2.2 hrp.2.1 HKB.out).mono ?_
            rintro e w3_apc ⟨v6, rfl, h6, hb⟩
            refine ⟨_, rfl, ?_⟩
            have hbN : N ≤ w2_ap.heap.size := HI.out.hN
            have hbw : w.heap.size ≤ w2_ap.heap.size := HI.out.size
            have hgl := blk_lt HG2.out
            have H6 : Aside0 (Kd.R k60 60 w3_apc w.heap.size (fun k => N ≤ k ∧ k ≠ g19) v6 xs) := ⟨Kd.R_lower (Kd.R_mono (Kd.R_bound h6) (fun k hk => ⟨Nat.le_trans hbN hk.2.1, by have := hk.2.1; omega⟩)) hbw⟩
            clear hgl
            replace HI := Aside0.mk (SI.go HI.out hb); replace BR := bkb BR hb; replace BA := bkb BA hb; replace BX := bkb BX hb; replace BY := bkb BY hb; replace HLC := Aside0.mk (Kd.C_below HLC.out hb); replace HG2 := bkb HG2 hb
            clear h6 hb hbN hbw hrp HP hrv HO
            refine hK.out _ _ ⟨b0 BR, b1 BR, b2 BR, b0 BX, b1 BX, b2 BX, b3 BX, b4 BX, b3 BA⟩ (fun hHeld => ?_)
            clear hK K hHeld
            refine normP ?_
            exact norm_ (by simp only [putAll, Act.put, List.setIfInBounds_toArray, List.set_cons_zero, List.set_cons_succ]) (hCont (.slice Ap ps.length cp, v6, g19) _ ⟨⟨b0 BR, b1 BR, b2 BR, b0 BX, b1 BX, b2 BX, b3 BX, b4 BX, b3 BA⟩, HI.out, BR.out, BA.out, BX.out, BY.out, H6.out, HG2.out, NG.out⟩)
          rintro ⟨v75, v6, g19⟩ we ⟨hHeld, HI2, hBR, hBA, hBX, hBY, H6, HG2, NG⟩
          clear HI BR BA BX BY HLC HO hHeld
          have HI := Aside0.mk HI2
          have BR := Aside0.mk hBR
          have BA := Aside0.mk hBA
          have BX := Aside0.mk hBX
          have BY := Aside0.mk hBY
          replace H6 : Aside0 (Kd.R k60 60 we w.heap.size (fun k => N ≤ k ∧ k ≠ g19) v6 xs) := ⟨H6⟩
          replace HG2 : Aside0 (we.heap[g19]? = some (.cells #[.bool false, .int .i64 0, .int .i64 0, .int .i64 0, .int .i64 0, .int .i64 0, .slice none 0 0] 32 (0, 0))) := ⟨HG2⟩
          replace NG : Aside0 (N ≤ g19) := ⟨NG⟩
          clear HI2 hBR hBA hBX hBY
          refine normA ?_
          refine last_ (i := 12) (N := none) #[true, true, true, true, true, true, true, true, true, true, true, true, true] rfl rfl (by kernel_rfl) (by decide) (fun K hK => ?_)
          have k0 := b0 HG2; have z0 := blk_frozen HG2.out 0
          have k1 := b1 HG2; have z1 := blk_frozen HG2.out 1
          have k2 := b2 HG2; have z2 := blk_frozen HG2.out 2
          have k3 := b3 HG2; have z3 := blk_frozen HG2.out 3
          have k4 := b4 HG2; have z4 := blk_frozen HG2.out 4
          have k5 := b5 HG2; have z5 := blk_frozen HG2.out 5
          have k6 := b6 HG2; have z6 := blk_frozen HG2.out 6
          obtain ⟨A6, c6, hv6⟩ := Kd.R_slice H6.out
          refine skip_ (w1 := (((((((we.setCell ⟨g19, 0, none⟩ (.bool x1)).setCell ⟨g19, 1, none⟩ (.int .i64 x2)).setCell ⟨g19, 2, none⟩ (.int .i64 x3)).setCell ⟨g19, 3, none⟩ (.int .i64 x4)).setCell ⟨g19, 4, none⟩ (.int .i64 x5)).setCell ⟨g19, 5, none⟩ (.int .i64 x6)).setCell ⟨g19, 6, none⟩ (v6))) (by rfl) rfl (by subst hv6; first | (go_simp; done) | (go_simp; rfl)) ?_
          clear z0 k0 z1 k1 z2 k2 z3 k3 z4 k4 z5 k5 z6 k6
          have hneBR : gr ≠ g19 := fun h => by have := LR.out; have := NG.out; omega
          have hneBA : ga ≠ g19 := fun h => by have := LA.out; have := NG.out; omega
          have hneBX : gx ≠ g19 := fun h => by have := LX.out; have := NG.out; omega
          have hneBY : gy ≠ g19 := fun h => by have := LY.out; have := NG.out; omega
          replace HI := Aside0.mk (SI.set (j := 6) (SI.set (j := 5) (SI.set (j := 4) (SI.set (j := 3) (SI.set (j := 2) (SI.set (j := 1) (SI.set (j := 0) (HI.out) (.inr NG.out) (.bool x1)) (.inr NG.out) (.int .i64 x2)) (.inr NG.out) (.int .i64 x3)) (.inr NG.out) (.int .i64 x4)) (.inr NG.out) (.int .i64 x5)) (.inr NG.out) (.int .i64 x6)) (.inr NG.out) (v6))
          replace BR := Aside0.mk (blk_far (p := ⟨g19, 6, none⟩) (blk_far (p := ⟨g19, 5, none⟩) (blk_far (p := ⟨g19, 4, none⟩) (blk_far (p := ⟨g19, 3, none⟩) (blk_far (p := ⟨g19, 2, none⟩) (blk_far (p := ⟨g19, 1, none⟩) (blk_far (p := ⟨g19, 0, none⟩) (BR.out) (hneBR) (.bool x1)) (hneBR) (.int .i64 x2)) (hneBR) (.int .i64 x3)) (hneBR) (.int .i64 x4)) (hneBR) (.int .i64 x5)) (hneBR) (.int .i64 x6)) (hneBR) (v6))
          replace BA := Aside0.mk (blk_far (p := ⟨g19, 6, none⟩) (blk_far (p := ⟨g19, 5, none⟩) (blk_far (p := ⟨g19, 4, none⟩) (blk_far (p := ⟨g19, 3, none⟩) (blk_far (p := ⟨g19, 2, none⟩) (blk_far (p := ⟨g19, 1, none⟩) (blk_far (p := ⟨g19, 0, none⟩) (BA.out) (hneBA) (.bool x1)) (hneBA) (.int .i64 x2)) (hneBA) (.int .i64 x3)) (hneBA) (.int .i64 x4)) (hneBA) (.int .i64 x5)) (hneBA) (.int .i64 x6)) (hneBA) (v6))
          replace BX := Aside0.mk (blk_far (p := ⟨g19, 6, none⟩) (blk_far (p := ⟨g19, 5, none⟩) (blk_far (p := ⟨g19, 4, none⟩) (blk_far (p := ⟨g19, 3, none⟩) (blk_far (p := ⟨g19, 2, none⟩) (blk_far (p := ⟨g19, 1, none⟩) (blk_far (p := ⟨g19, 0, none⟩) (BX.out) (hneBX) (.bool x1)) (hneBX) (.int .i64 x2)) (hneBX) (.int .i64 x3)) (hneBX) (.int .i64 x4)) (hneBX) (.int .i64 x5)) (hneBX) (.int .i64 x6)) (hneBX) (v6))
          replace BY := Aside0.mk (blk_far (p := ⟨g19, 6, none⟩) (blk_far (p := ⟨g19, 5, none⟩) (blk_far (p := ⟨g19, 4, none⟩) (blk_far (p := ⟨g19, 3, none⟩) (blk_far (p := ⟨g19, 2, none⟩) (blk_far (p := ⟨g19, 1, none⟩) (blk_far (p := ⟨g19, 0, none⟩) (BY.out) (hneBY) (.bool x1)) (hneBY) (.int .i64 x2)) (hneBY) (.int .i64 x3)) (hneBY) (.int .i64 x4)) (hneBY) (.int .i64 x5)) (hneBY) (.int .i64 x6)) (hneBY) (v6))
          replace HG2 := Aside0.mk (blk_put (cs := #[.bool x1, .int .i64 x2, .int .i64 x3, .int .i64 x4, .int .i64 x5, .int .i64 x6, .slice none 0 0]) (cs' := #[.bool x1, .int .i64 x2, .int .i64 x3, .int .i64 x4, .int .i64 x5, .int .i64 x6, v6]) (blk_put (cs := #[.bool x1, .int .i64 x2, .int .i64 x3, .int .i64 x4, .int .i64 x5, .int .i64 0, .slice none 0 0]) (cs' := #[.bool x1, .int .i64 x2, .int .i64 x3, .int .i64 x4, .int .i64 x5, .int .i64 x6, .slice none 0 0]) (blk_put (cs := #[.bool x1, .int .i64 x2, .int .i64 x3, .int .i64 x4, .int .i64 0, .int .i64 0, .slice none 0 0]) (cs' := #[.bool x1, .int .i64 x2, .int .i64 x3, .int .i64 x4, .int .i64 x5, .int .i64 0, .slice none 0 0]) (blk_put (cs := #[.bool x1, .int .i64 x2, .int .i64 x3, .int .i64 0, .int .i64 0, .int .i64 0, .slice none 0 0]) (cs' := #[.bool x1, .int .i64 x2, .int .i64 x3, .int .i64 x4, .int .i64 0, .int .i64 0, .slice none 0 0]) (blk_put (cs := #[.bool x1, .int .i64 x2, .int .i64 0, .int .i64 0, .int .i64 0, .int .i64 0, .slice none 0 0]) (cs' := #[.bool x1, .int .i64 x2, .int .i64 x3, .int .i64 0, .int .i64 0, .int .i64 0, .slice none 0 0]) (blk_put (cs := #[.bool x1, .int .i64 0, .int .i64 0, .int .i64 0, .int .i64 0, .int .i64 0, .slice none 0 0]) (cs' := #[.bool x1, .int .i64 x2, .int .i64 0, .int .i64 0, .int .i64 0, .int .i64 0, .slice none 0 0]) (blk_put (cs := #[.bool false, .int .i64 0, .int .i64 0, .int .i64 0, .int .i64 0, .int .i64 0, .slice none 0 0]) (cs' := #[.bool x1, .int .i64 0, .int .i64 0, .int .i64 0, .int .i64 0, .int .i64 0, .slice none 0 0]) (HG2.out) 0 (.bool x1) rfl) 1 (.int .i64 x2) rfl) 2 (.int .i64 x3) rfl) 3 (.int .i64 x4) rfl) 4 (.int .i64 x5) rfl) 5 (.int .i64 x6) rfl) 6 (v6) rfl)
          replace H6 := Aside0.mk (Kd.R_far (p := ⟨g19, 6, none⟩) (Kd.R_far (p := ⟨g19, 5, none⟩) (Kd.R_far (p := ⟨g19, 4, none⟩) (Kd.R_far (p := ⟨g19, 3, none⟩) (Kd.R_far (p := ⟨g19, 2, none⟩) (Kd.R_far (p := ⟨g19, 1, none⟩) (Kd.R_far (p := ⟨g19, 0, none⟩) (H6.out) ((fun _ h => h.2)) (.bool x1)) ((fun _ h => h.2)) (.int .i64 x2)) ((fun _ h => h.2)) (.int .i64 x3)) ((fun _ h => h.2)) (.int .i64 x4)) ((fun _ h => h.2)) (.int .i64 x5)) ((fun _ h => h.2)) (.int .i64 x6)) ((fun _ h => h.2)) (v6))
          generalize (((((((we.setCell ⟨g19, 0, none⟩ (.bool x1)).setCell ⟨g19, 1, none⟩ (.int .i64 x2)).setCell ⟨g19, 2, none⟩ (.int .i64 x3)).setCell ⟨g19, 3, none⟩ (.int .i64 x4)).setCell ⟨g19, 4, none⟩ (.int .i64 x5)).setCell ⟨g19, 5, none⟩ (.int .i64 x6)).setCell ⟨g19, 6, none⟩ (v6)) = wf at HI BR BA BX BY HG2 H6 ⊢
          clear hneBR hneBA hneBX hneBY
          subst hv6
          refine hK.out _ _ ?_
          clear hK K
          refine done_ (by kernel_rfl) ?_
          have k0 := b0 HG2; have k1q := b1 HG2; have k2 := b2 HG2; have k3 := b3 HG2; have k4 := b4 HG2; have k5 := b5 HG2
          cases x1 with
          | false =>
           have HRN : Aside0 (r = []) := ⟨by rw [← HA.out]; exact run_box (by rw [← HVS.out, ← HPS.out]; exact HX.out.symm)⟩
           go_wp2
           go_ret
           exact ⟨_, rfl, by rw [HRN.out]; exact Kd.R_nil _ _ _ _ _, HI.out.below⟩
          | true =>
           have u0 := b0 BX; have u1 := b1 BX; have u2 := b2 BX; have u3 := b3 BX; have u4 := b4 BX; have y0 := blk_frozen BX.out 0; have y1 := blk_frozen BX.out 1; have y2_ := blk_frozen BX.out 2; have y3_ := blk_frozen BX.out 3; have y4_ := blk_frozen BX.out 4
           have k6 := b6 HG2
           have hnx1 : g19 ≠ gx := fun h => by have := LX.out; have := NG.out; omega
           have HXX : Aside0 (boxF a0_0 a0_1 a0_2 now b (vals now sets).1 (pks (rB.getD now.toNat [])) = (true, x2, x3, x4, x5, x6, xs)) := ⟨by rw [← HVS.out, ← HPS.out]; exact HX.out.symm⟩
           have HXL := Aside0.mk (box_sent HX.out)
           have HXK := Aside0.mk (box_kind HX.out)
           go_upto_region 21 with (fail)
           clear u0 u1 u2 u3 u4 y0 y1 y2_ y3_ y4_ k0 k1q k2 k3 k4 k5 k6
           have hne1 : ∀ k, N ≤ k ∧ k ≠ g19 → k ≠ gx := fun k hk h => by have := LX.out; have := hk.1; omega
           replace HI := Aside0.mk (SI.set (j := 4) (SI.set (j := 3) (SI.set (j := 2) (SI.set (j := 1) (SI.set (j := 0) (HI.out) (.inl XX.out) (.int .i64 x2)) (.inl XX.out) (.int .i64 x3)) (.inl XX.out) (.int .i64 x4)) (.inl XX.out) (.int .i64 x5)) (.inl XX.out) (.int .i64 x6))
           replace BR := Aside0.mk (blk_far (p := ⟨gx, 4, none⟩) (blk_far (p := ⟨gx, 3, none⟩) (blk_far (p := ⟨gx, 2, none⟩) (blk_far (p := ⟨gx, 1, none⟩) (blk_far (p := ⟨gx, 0, none⟩) (BR.out) (NRX.out) (.int .i64 x2)) (NRX.out) (.int .i64 x3)) (NRX.out) (.int .i64 x4)) (NRX.out) (.int .i64 x5)) (NRX.out) (.int .i64 x6))
           replace BA := Aside0.mk (blk_far (p := ⟨gx, 4, none⟩) (blk_far (p := ⟨gx, 3, none⟩) (blk_far (p := ⟨gx, 2, none⟩) (blk_far (p := ⟨gx, 1, none⟩) (blk_far (p := ⟨gx, 0, none⟩) (BA.out) (NAX.out) (.int .i64 x2)) (NAX.out) (.int .i64 x3)) (NAX.out) (.int .i64 x4)) (NAX.out) (.int .i64 x5)) (NAX.out) (.int .i64 x6))
           replace BY := Aside0.mk (blk_far (p := ⟨gx, 4, none⟩) (blk_far (p := ⟨gx, 3, none⟩) (blk_far (p := ⟨gx, 2, none⟩) (blk_far (p := ⟨gx, 1, none⟩) (blk_far (p := ⟨gx, 0, none⟩) (BY.out) ((fun h => NXY.out h.symm)) (.int .i64 x2)) ((fun h => NXY.out h.symm)) (.int .i64 x3)) ((fun h => NXY.out h.symm)) (.int .i64 x4)) ((fun h => NXY.out h.symm)) (.int .i64 x5)) ((fun h => NXY.out h.symm)) (.int .i64 x6))
           replace HG2 := Aside0.mk (blk_far (p := ⟨gx, 4, none⟩) (blk_far (p := ⟨gx, 3, none⟩) (blk_far (p := ⟨gx, 2, none⟩) (blk_far (p := ⟨gx, 1, none⟩) (blk_far (p := ⟨gx, 0, none⟩) (HG2.out) (hnx1) (.int .i64 x2)) (hnx1) (.int .i64 x3)) (hnx1) (.int .i64 x4)) (hnx1) (.int .i64 x5)) (hnx1) (.int .i64 x6))
           replace BX := Aside0.mk (blk_put (cs := #[.int .i64 x2, .int .i64 x3, .int .i64 x4, .int .i64 x5, .int .i64 b.f4]) (cs' := #[.int .i64 x2, .int .i64 x3, .int .i64 x4, .int .i64 x5, .int .i64 x6]) (blk_put (cs := #[.int .i64 x2, .int .i64 x3, .int .i64 x4, .int .i64 b.f3, .int .i64 b.f4]) (cs' := #[.int .i64 x2, .int .i64 x3, .int .i64 x4, .int .i64 x5, .int .i64 b.f4]) (blk_put (cs := #[.int .i64 x2, .int .i64 x3, .int .i64 b.f2, .int .i64 b.f3, .int .i64 b.f4]) (cs' := #[.int .i64 x2, .int .i64 x3, .int .i64 x4, .int .i64 b.f3, .int .i64 b.f4]) (blk_put (cs := #[.int .i64 x2, .int .i64 b.f1, .int .i64 b.f2, .int .i64 b.f3, .int .i64 b.f4]) (cs' := #[.int .i64 x2, .int .i64 x3, .int .i64 b.f2, .int .i64 b.f3, .int .i64 b.f4]) (blk_put (cs := #[.int .i64 b.f0, .int .i64 b.f1, .int .i64 b.f2, .int .i64 b.f3, .int .i64 b.f4]) (cs' := #[.int .i64 x2, .int .i64 b.f1, .int .i64 b.f2, .int .i64 b.f3, .int .i64 b.f4]) (BX.out) 0 (.int .i64 x2) rfl) 1 (.int .i64 x3) rfl) 2 (.int .i64 x4) rfl) 3 (.int .i64 x5) rfl) 4 (.int .i64 x6) rfl)
           replace H6 := Aside0.mk (Kd.R_far (p := ⟨gx, 4, none⟩) (Kd.R_far (p := ⟨gx, 3, none⟩) (Kd.R_far (p := ⟨gx, 2, none⟩) (Kd.R_far (p := ⟨gx, 1, none⟩) (Kd.R_far (p := ⟨gx, 0, none⟩) (H6.out) (hne1) (.int .i64 x2)) (hne1) (.int .i64 x3)) (hne1) (.int .i64 x4)) (hne1) (.int .i64 x5)) (hne1) (.int .i64 x6))
           generalize (((((wf.setCell ⟨gx, 0, none⟩ (.int .i64 x2)).setCell ⟨gx, 1, none⟩ (.int .i64 x3)).setCell ⟨gx, 2, none⟩ (.int .i64 x4)).setCell ⟨gx, 3, none⟩ (.int .i64 x5)).setCell ⟨gx, 4, none⟩ (.int .i64 x6)) = wg at HI BR BA BY HG2 BX H6 ⊢
           clear hne1 hnx1
           have B19 := HG2
           clear HG2
           have LA0 := LA
           have LY0 := LY
           have HIW := Aside0.mk HI.out.wide
           obtain ⟨N1, hN1⟩ : ∃ x, x = wg.heap.size := ⟨_, rfl⟩
           replace LR := Aside0.mk (hN1 ▸ blk_lt BR.out)
           replace LA := Aside0.mk (hN1 ▸ blk_lt BA.out)
           replace LX := Aside0.mk (hN1 ▸ blk_lt BX.out)
           replace LY := Aside0.mk (hN1 ▸ blk_lt BY.out)
           have L19 := Aside0.mk (hN1 ▸ blk_lt B19.out)
           rw [← hN1] at HIW
           have HNNN1 : Aside0 (N ≤ N1) := ⟨by rw [hN1]; exact HI.out.hN⟩
           obtain ⟨ex1, hex1⟩ : ∃ e : Nat → Prop, e = (fun k => ex k ∨ (N ≤ k ∧ k < N1)) := ⟨_, rfl⟩
           replace XR : Aside0 (ex1 gr) := ⟨by rw [hex1]; exact .inl XR.out⟩
           replace XA : Aside0 (ex1 ga) := ⟨by rw [hex1]; exact .inl XA.out⟩
           replace XX : Aside0 (ex1 gx) := ⟨by rw [hex1]; exact .inl XX.out⟩
           replace XY : Aside0 (ex1 gy) := ⟨by rw [hex1]; exact .inl XY.out⟩
           have X19 : Aside0 (ex1 g19) := ⟨by rw [hex1]; exact .inr ⟨NG.out, L19.out⟩⟩
           replace HEX : Aside0 (∀ k, (k = gr ∨ k = ga ∨ k = gx ∨ k = gy) → ex1 k) := ⟨fun k hk => by rw [hex1]; exact .inl (HEX.out k hk)⟩
           have P6N1 : Aside0 (∀ k, N ≤ k → k < N1 → ex1 k) := ⟨fun k h1 h2 => by rw [hex1]; exact .inr ⟨h1, h2⟩⟩
           replace H6 : Aside0 (Kd.R k60 60 wg w.heap.size (fun k => N ≤ k ∧ k < N1) (.slice A6 xs.length c6) xs) := ⟨Kd.R_mono (Kd.R_bound H6.out) (fun k hk => ⟨hk.1.1, by rw [hN1]; exact hk.2.2.1⟩)⟩
           rw [← hex1] at HIW
           clear HI hex1 hN1
           have HI := HIW
           clear HIW
           have k6 := b6 B19
           go_wp2
           clear k6
           go_loopg [85] xs.length (fun kq v85 w' => ∃ (x ni : Int) (dni : List S146) (vDi : Value) (okDi exi : Nat → Prop) (Ni : Nat), v85 = .int .i64 x ∧ Aside0 (0 ≤ x ∧ x.toNat + kq = xs.length ∧ ni = n + x ∧ dni.length ≤ 10 * min ni.toNat l2.length) ∧ Aside0 (sendsD l2 now (xs.drop x.toNat) ni dni = sendsD l2 now xs n dn) ∧ Aside0 ((∀ k, ex1 k → exi k) ∧ N1 ≤ Ni) ∧ Aside0 (SI w w' Ni exi okDi okU okO (vDi) (.slice Au up.length cu) u10 dni up out) ∧ Aside0 (Kd.R k60 60 w' w.heap.size (fun k => N ≤ k ∧ k < N1) (.slice A6 xs.length c6) xs) ∧ Aside0 (w'.heap[gr]? = some (.cells #[.int .i64 a0_0, .int .i64 a0_1, .int .i64 a0_2] 34 (0, 0))) ∧ Aside0 (w'.heap[ga]? = some (.cells #[.slice A2 l2.length c2, .int .i64 ni, vDi, .slice Au up.length cu] 123 (0, 0))) ∧ Aside0 (w'.heap[gx]? = some (.cells #[.int .i64 x2, .int .i64 x3, .int .i64 x4, .int .i64 x5, .int .i64 x6] 29 (0, 0))) ∧ Aside0 (w'.heap[gy]? = some (.cells #[.int .i64 t.f0, .int .i64 t.f1, .int .i64 t.f2] 48 (0, 0))) ∧ Aside0 (w'.heap[g19]? = some (.cells #[.bool true, .int .i64 x2, .int .i64 x3, .int .i64 x4, .int .i64 x5, .int .i64 x6, .slice A6 xs.length c6] 32 (0, 0))))
           case atStart => exact ⟨0, n, dn, _, okD, ex1, N1, rfl, ⟨by omega, by simp, by omega, by have := HJ.out; omega⟩, ⟨by simp⟩, ⟨fun _ h => h, Nat.le_refl _⟩, HI, H6, BR, BA, BX, BY, B19⟩
           case round =>
            clear HI H6 BR BA BX BY B19
            obtain ⟨x, ni, dni, vDi, okDi, exi, Ni, rfl, HV, HA3, HEI, HI, H6, BR, BA, BX, BY, B19⟩ := hrel
            obtain ⟨Ai, ci, hvi⟩ := Kd.R_slice HI.out.hD
            subst hvi
            by_cases hx : x < (xs.length : Int)
            ·obtain ⟨k2, rfl⟩ : ∃ k2, gk = k2 + 1 := ⟨gk - 1, by have := HV.out; omega⟩
             have d1 : decide (x < (xs.length : Int)) = true := decide_eq_true hx
             obtain ⟨ad1, e1, hx0, hx1, hx2, hx3⟩ := at_T60 (Kd.R_reads' H6.out).2.2 x HV.out.1 hx
             cases e1
             have p1 : (0 ≤ x) = True := eq_true HV.out.1
             have q1 : (x < (xs.length : Int)) = True := eq_true hx
             have wx : wrap64 (x + 1) = x + 1 := Go.Proofs.Ytndffnacbfdnoaa.Plain.w64 (by have := HV.out; omega) (by have := HXL.out; omega)
             have HLX := Aside0.mk hx
             have HKD : Aside0 ((rd_T60 xs x).f0 = 1) := ⟨HXK.out _ (mem60 HV.out.1 hx)⟩
             have HA4 : Aside0 (sendsD l2 now (xs.drop (x + 1).toNat) (ni + 1) (sendD l2 now (rd_T60 xs x) ni dni) = sendsD l2 now xs n dn) := ⟨by rw [← HA3.out, drop60 HV.out.1 hx]; rfl⟩
             have HDL : Aside0 ((sendD l2 now (rd_T60 xs x) ni dni).length ≤ 10 * min (ni + 1).toNat l2.length) := ⟨sendD_len HG.out.fa now _ (by have := HV.out; have := HJ.out; omega) HV.out.2.2.2⟩
             clear hx
             go_upto_region 24 with (first | ((with_reducible refine gate_dst (N := 19) rfl ?_); refine boxA #[.int .i64 0, .int .i64 0, .int .i64 0, .int .i64 0] 60 ?_; intro gq hg w2_ hbox hb; have NRQ := nlt BR hg; have NAQ := nlt BA hg; have NXQ := nlt BX hg; have NYQ := nlt BY hg; have N19Q := nlt B19 hg; have NGQ : Aside0 (Ni ≤ gq) := ⟨by rw [hg]; exact HI.out.hN⟩; have BQ := Aside0.mk hbox; replace HI := Aside0.mk (SI.go HI.out hb); replace BR := bkb BR hb; replace BA := bkb BA hb; replace BX := bkb BX hb; replace BY := bkb BY hb; replace B19 := bkb B19 hb; replace H6 := Aside0.mk (Kd.R_below H6.out hb); have y0 := b0 BQ; have e0 := blk_frozen BQ.out 0; have y1 := b1 BQ; have e1 := blk_frozen BQ.out 1; have y2 := b2 BQ; have e2 := blk_frozen BQ.out 2; have y3 := b3 BQ; have e3 := blk_frozen BQ.out 3; clear hx0 hx1 hx2 hx3; clear hg hbox hb))
             clear y0 e0 y1 e1 y2 e2 y3 e3 p1 q1 d1
             have hnq : ∀ k, N ≤ k ∧ k < N1 → k ≠ gq := fun k hk h => by have := NGQ.out; have := HEI.out.2; have := hk.2; omega
             replace HI := Aside0.mk (SI.set (j := 3) (SI.set (j := 2) (SI.set (j := 1) (SI.set (j := 0) (HI.out) (.inr NGQ.out) (.int .i64 (rd_T60 xs x).f0)) (.inr NGQ.out) (.int .i64 (rd_T60 xs x).f1)) (.inr NGQ.out) (.int .i64 (rd_T60 xs x).f2)) (.inr NGQ.out) (.int .i64 (rd_T60 xs x).f3))
             replace BR := Aside0.mk (blk_far (p := ⟨gq, 3, none⟩) (blk_far (p := ⟨gq, 2, none⟩) (blk_far (p := ⟨gq, 1, none⟩) (blk_far (p := ⟨gq, 0, none⟩) (BR.out) (NRQ.out) (.int .i64 (rd_T60 xs x).f0)) (NRQ.out) (.int .i64 (rd_T60 xs x).f1)) (NRQ.out) (.int .i64 (rd_T60 xs x).f2)) (NRQ.out) (.int .i64 (rd_T60 xs x).f3))
             replace BA := Aside0.mk (blk_far (p := ⟨gq, 3, none⟩) (blk_far (p := ⟨gq, 2, none⟩) (blk_far (p := ⟨gq, 1, none⟩) (blk_far (p := ⟨gq, 0, none⟩) (BA.out) (NAQ.out) (.int .i64 (rd_T60 xs x).f0)) (NAQ.out) (.int .i64 (rd_T60 xs x).f1)) (NAQ.out) (.int .i64 (rd_T60 xs x).f2)) (NAQ.out) (.int .i64 (rd_T60 xs x).f3))
             replace BX := Aside0.mk (blk_far (p := ⟨gq, 3, none⟩) (blk_far (p := ⟨gq, 2, none⟩) (blk_far (p := ⟨gq, 1, none⟩) (blk_far (p := ⟨gq, 0, none⟩) (BX.out) (NXQ.out) (.int .i64 (rd_T60 xs x).f0)) (NXQ.out) (.int .i64 (rd_T60 xs x).f1)) (NXQ.out) (.int .i64 (rd_T60 xs x).f2)) (NXQ.out) (.int .i64 (rd_T60 xs x).f3))
             replace BY := Aside0.mk (blk_far (p := ⟨gq, 3, none⟩) (blk_far (p := ⟨gq, 2, none⟩) (blk_far (p := ⟨gq, 1, none⟩) (blk_far (p := ⟨gq, 0, none⟩) (BY.out) (NYQ.out) (.int .i64 (rd_T60 xs x).f0)) (NYQ.out) (.int .i64 (rd_T60 xs x).f1)) (NYQ.out) (.int .i64 (rd_T60 xs x).f2)) (NYQ.out) (.int .i64 (rd_T60 xs x).f3))
             replace B19 := Aside0.mk (blk_far (p := ⟨gq, 3, none⟩) (blk_far (p := ⟨gq, 2, none⟩) (blk_far (p := ⟨gq, 1, none⟩) (blk_far (p := ⟨gq, 0, none⟩) (B19.out) (N19Q.out) (.int .i64 (rd_T60 xs x).f0)) (N19Q.out) (.int .i64 (rd_T60 xs x).f1)) (N19Q.out) (.int .i64 (rd_T60 xs x).f2)) (N19Q.out) (.int .i64 (rd_T60 xs x).f3))
             replace BQ := Aside0.mk (blk_put (cs := #[.int .i64 (rd_T60 xs x).f0, .int .i64 (rd_T60 xs x).f1, .int .i64 (rd_T60 xs x).f2, .int .i64 0]) (cs' := #[.int .i64 (rd_T60 xs x).f0, .int .i64 (rd_T60 xs x).f1, .int .i64 (rd_T60 xs x).f2, .int .i64 (rd_T60 xs x).f3]) (blk_put (cs := #[.int .i64 (rd_T60 xs x).f0, .int .i64 (rd_T60 xs x).f1, .int .i64 0, .int .i64 0]) (cs' := #[.int .i64 (rd_T60 xs x).f0, .int .i64 (rd_T60 xs x).f1, .int .i64 (rd_T60 xs x).f2, .int .i64 0]) (blk_put (cs := #[.int .i64 (rd_T60 xs x).f0, .int .i64 0, .int .i64 0, .int .i64 0]) (cs' := #[.int .i64 (rd_T60 xs x).f0, .int .i64 (rd_T60 xs x).f1, .int .i64 0, .int .i64 0]) (blk_put (cs := #[.int .i64 0, .int .i64 0, .int .i64 0, .int .i64 0]) (cs' := #[.int .i64 (rd_T60 xs x).f0, .int .i64 0, .int .i64 0, .int .i64 0]) (BQ.out) 0 (.int .i64 (rd_T60 xs x).f0) rfl) 1 (.int .i64 (rd_T60 xs x).f1) rfl) 2 (.int .i64 (rd_T60 xs x).f2) rfl) 3 (.int .i64 (rd_T60 xs x).f3) rfl)
             replace H6 := Aside0.mk (Kd.R_far (p := ⟨gq, 3, none⟩) (Kd.R_far (p := ⟨gq, 2, none⟩) (Kd.R_far (p := ⟨gq, 1, none⟩) (Kd.R_far (p := ⟨gq, 0, none⟩) (H6.out) (hnq) (.int .i64 (rd_T60 xs x).f0)) (hnq) (.int .i64 (rd_T60 xs x).f1)) (hnq) (.int .i64 (rd_T60 xs x).f2)) (hnq) (.int .i64 (rd_T60 xs x).f3))
             generalize ((((w2_.setCell ⟨gq, 0, none⟩ (.int .i64 (rd_T60 xs x).f0)).setCell ⟨gq, 1, none⟩ (.int .i64 (rd_T60 xs x).f1)).setCell ⟨gq, 2, none⟩ (.int .i64 (rd_T60 xs x).f2)).setCell ⟨gq, 3, none⟩ (.int .i64 (rd_T60 xs x).f3)) = w3_ at HI BR BA BX BY B19 BQ H6 ⊢
             clear hnq
             have hsend := specSendD w w3_ okDi ga now (rd_T60 xs x) A2 c2 l2 ni (.slice Ai dni.length ci) (.slice Au up.length cu) dni HKD.out HI.out.hD BA.out (HI.out.exg ga (HEI.out.1 ga XA.out)) (fun h => (HI.out.bD ga h).2 (HEI.out.1 ga XA.out)) ⟨_, _, _, rfl⟩ HR2.out HI.out.below (by have := HJ.out; omega) (by have := HJ.out; have := HG.out.t1; omega) (by have := HV.out; have := HJ.out; omega) (by have := HV.out; have := HJ.out; have := HXL.out; have := HG.out.t1; have := HLX.out; omega) HG.out.fa (by have := HV.out; have := HG.out.n2; omega)
             have q0 := b0 BQ; have q1 := b1 BQ; have q2 := b2 BQ; have q3 := b3 BQ
             go_wp2_with (first | ((with_reducible refine gate_callee (f := 81) rfl ?_); refine goesLA (some 92) rfl Try.func81 #[.pointer (some ⟨ga, 0, none⟩), .int .i64 now, .agg #[.int .i64 (rd_T60 xs x).f0, .int .i64 (rd_T60 xs x).f1, .int .i64 (rd_T60 xs x).f2, .int .i64 (rd_T60 xs x).f3]] ?_; refine hsend.mono ?_; rintro e w4_ ⟨vv, vn, rfl, hs, ha, hk, hb⟩; refine ⟨_, rfl, ?_⟩; have HI3 := SI.sentD HI.out hs hk (HEI.out.1 ga XA.out) hb; replace BR := Aside0.mk (blk_kept BR.out hk (fun h => h.elim (fun h => (HI.out.bD gr h).2 (HEI.out.1 gr XR.out)) (fun e => NRA.out e))); replace BX := Aside0.mk (blk_kept BX.out hk (fun h => h.elim (fun h => (HI.out.bD gx h).2 (HEI.out.1 gx XX.out)) (fun e => NAX.out e.symm))); replace BY := Aside0.mk (blk_kept BY.out hk (fun h => h.elim (fun h => (HI.out.bD gy h).2 (HEI.out.1 gy XY.out)) (fun e => NAY.out e.symm))); replace B19 := Aside0.mk (blk_kept B19.out hk (fun h => h.elim (fun h => (HI.out.bD g19 h).2 (HEI.out.1 g19 X19.out)) (fun e => (by have := LA0.out; have := NG.out; omega : g19 ≠ ga) e))); replace H6 := Aside0.mk (Kd.R_kept H6.out hk (fun k hk h => h.elim (fun h => (HI.out.bD k h).2 (HEI.out.1 k (P6N1.out k hk.1 hk.2))) (fun e => (fun hh => Nat.lt_irrefl _ (Nat.lt_of_lt_of_le LA0.out hh)) (e ▸ hk.1)))); replace BA := Aside0.mk ha; have HE4 : Aside0 ((∀ k, ex1 k → exi k ∨ (Ni ≤ k ∧ k < w3_.heap.size)) ∧ N1 ≤ w4_.heap.size) := ⟨fun k h => .inl (HEI.out.1 k h), Nat.le_trans HEI.out.2 (Nat.le_trans HI.out.hN hk.1)⟩; clear HI HEI; have HI := Aside0.mk HI3; clear HI3 hs hk hb ha hsend q0 q1 q2 q3))
             go_roundg k2
             case measure => omega
             case rel =>
              have hv := HV.out
              have hlx := HLX.out
              exact ⟨x + 1, ni + 1, _, _, _, _, _, by first | rfl | rw [wx], ⟨by omega, by omega, by omega, HDL.out⟩, HA4, HE4, HI, H6, BR, BA, BX, BY, B19⟩
            ·have d1 : decide (x < (xs.length : Int)) = false := decide_eq_false hx
             have HDN : Aside0 (dni = sendsD l2 now xs n dn) := ⟨by
              have h := HA3.out
              rw [List.drop_of_length_le (by have := HV.out; omega)] at h
              exact h⟩
             have HNI : Aside0 (ni = n + (xs.length : Int)) := ⟨by have := HV.out; omega⟩
             clear hx
             go_wp2
             clear d1
             have HIW := Aside0.mk HI.out.wide
             obtain ⟨N2, hN2⟩ : ∃ x, x = wr.heap.size := ⟨_, rfl⟩
             replace LR := Aside0.mk (hN2 ▸ blk_lt BR.out)
             replace LA := Aside0.mk (hN2 ▸ blk_lt BA.out)
             replace LX := Aside0.mk (hN2 ▸ blk_lt BX.out)
             replace LY := Aside0.mk (hN2 ▸ blk_lt BY.out)
             replace L19 := Aside0.mk (hN2 ▸ blk_lt B19.out)
             rw [← hN2] at HIW
             have HNN2 : Aside0 (N1 ≤ N2) := ⟨by rw [hN2]; exact Nat.le_trans HEI.out.2 HI.out.hN⟩
             obtain ⟨ex2, hex2⟩ : ∃ e : Nat → Prop, e = (fun k => exi k ∨ (Ni ≤ k ∧ k < N2)) := ⟨_, rfl⟩
             replace XR : Aside0 (ex2 gr) := ⟨by rw [hex2]; exact .inl (HEI.out.1 _ XR.out)⟩
             replace XA : Aside0 (ex2 ga) := ⟨by rw [hex2]; exact .inl (HEI.out.1 _ XA.out)⟩
             replace XX : Aside0 (ex2 gx) := ⟨by rw [hex2]; exact .inl (HEI.out.1 _ XX.out)⟩
             replace XY : Aside0 (ex2 gy) := ⟨by rw [hex2]; exact .inl (HEI.out.1 _ XY.out)⟩
             replace X19 : Aside0 (ex2 g19) := ⟨by rw [hex2]; exact .inl (HEI.out.1 _ X19.out)⟩
             replace HEX : Aside0 (∀ k, (k = gr ∨ k = ga ∨ k = gx ∨ k = gy) → ex2 k) := ⟨fun k hk => by rw [hex2]; exact .inl (HEI.out.1 _ (HEX.out k hk))⟩
             rw [← hex2] at HIW
             have HDL1 : Aside0 (dni.length ≤ 10 * min ni.toNat l2.length) := ⟨HV.out.2.2.2⟩
             clear HI hex2 hN2 H6 HV HA3 HEI
             have HI := HIW
             clear HIW
             obtain ⟨n1, hrn⟩ : ∃ z, z = ni := ⟨_, rfl⟩
             subst hrn
             obtain ⟨dn1, hrn⟩ : ∃ z, z = dni := ⟨_, rfl⟩
             subst hrn
             obtain ⟨Ad1, hrn⟩ : ∃ z, z = Ai := ⟨_, rfl⟩
             subst hrn
             obtain ⟨cd1, hrn⟩ : ∃ z, z = ci := ⟨_, rfl⟩
             subst hrn
             obtain ⟨okD1, hrn⟩ : ∃ z, z = okDi := ⟨_, rfl⟩
             subst hrn
             have HN1 := HNI
             clear HNI
             have HNS : Aside0 ((sendL l2 now a3 xs n rT).2 = n1) := ⟨by rw [sendL_n, HN1.out]⟩
             obtain ⟨rT1, hrT1⟩ : ∃ e, e = (sendL l2 now a3 xs n rT).1 := ⟨_, rfl⟩
             have HRT := Aside0.mk hrT1
             have HTL : Aside0 ((rT1.length : Int) = a3 + 1) := ⟨by rw [hrT1, sendL_len]; exact HJ.out.2.2.2.2.2.2.2.2⟩
             have HAD : Aside0 (Air now a3 dn1 rT1) := ⟨by rw [hrT1, HDN.out]; exact air_L l2 HG.out.fa now now a3 (by have := HJ.out; omega) (by have := HJ.out; omega) xs n dn rT (by have := HJ.out; omega) (by have := HJ.out; omega) HAIR.out.1⟩
             clear hrT1
             have HLC := Aside0.mk (Kd.R_reads' HI.out.hD).2.2
             have HLE := Aside0.mk (Kd.R_reads' HI.out.hD).2.1
             have HLB1 : Aside0 (dn1.length ≤ 50000) := ⟨by have := HDL1.out; have := HG.out.n2; omega⟩
             obtain ⟨kp, hkp⟩ : ∃ k, 1200000 < k := ⟨1200001, by omega⟩
             have HKP := Aside0.mk (due_is dn1 now (by have := HLB1.out; omega) kp (by have := HLB1.out; omega))
             obtain ⟨pt, hps⟩ : ∃ x, x = dueL now dn1 := ⟨_, rfl⟩
             have HPL1 : Aside0 (pt.length ≤ 50000) := ⟨by have := dueL_len now dn1; have := HLB1.out; rw [hps]; omega⟩
             have HPT : Aside0 (pt = pks (rT1.getD now.toNat [])) := ⟨by rw [hps]; exact HAD.out now (by omega) (by have := HJ.out; omega)⟩
             rw [← hps] at HKP
             clear hps
             obtain ⟨Y, hY⟩ : ∃ x, x = trainF a0_0 a0_1 a0_2 now t pt := ⟨_, rfl⟩
             have HKT := Aside0.mk (spec_train_is a0_0 a0_1 a0_2 now t pt (by have := HPL1.out; omega) kp (by have := HPL1.out; omega))
             rw [← hY] at HKT
             have HY := Aside0.mk hY
             clear hY hkp
             obtain ⟨y1, y2, y3, y4, ys, y6⟩ := Y
             replace HI := Aside0.mk (SI.drew HI.out)
             replace BR := Aside0.mk (blk_drew BR.out)
             replace BA := Aside0.mk (blk_drew BA.out)
             replace BX := Aside0.mk (blk_drew BX.out)
             replace BY := Aside0.mk (blk_drew BY.out)
             replace B19 := Aside0.mk (blk_drew B19.out)
             replace HLC := Aside0.mk (Kd.C_drew HLC.out)
             refine start_ (n := 12) (S := fun w' => w'.cell? ⟨gr, 0, none⟩ = some (.int .i64 a0_0) ∧ w'.cell? ⟨gr, 1, none⟩ = some (.int .i64 a0_1) ∧ w'.cell? ⟨gr, 2, none⟩ = some (.int .i64 a0_2) ∧ w'.cell? ⟨gy, 0, none⟩ = some (.int .i64 t.f0) ∧ w'.cell? ⟨gy, 1, none⟩ = some (.int .i64 t.f1) ∧ w'.cell? ⟨gy, 2, none⟩ = some (.int .i64 t.f2) ∧ w'.cell? ⟨ga, 2, none⟩ = some (.slice Ad1 dn1.length cd1)) (ds := [11]) #[false, false, false, false, false, false, false, false, false, false, false, false] (by kernel_rfl) rfl rfl ⟨b0 BR, b1 BR, b2 BR, b0 BY, b1 BY, b2 BY, b2 BA⟩ (fun hHeld => ?_)
             generalize wr.drew = wi at HI BR BA BX BY B19 HLC  hHeld ⊢
             refine takeA 0 94 #[true, false, false, false, false, false, false, false, false, false, false, false] (by kernel_rfl) hHeld ?_
             refine pureA 1 95 #[true, true, false, false, false, false, false, false, false, false, false, false] (by kernel_rfl) ?_
             refine takeA 2 96 #[true, true, true, false, false, false, false, false, false, false, false, false] (by kernel_rfl) hHeld ?_
             refine pureA 3 97 #[true, true, true, true, false, false, false, false, false, false, false, false] (by kernel_rfl) ?_
             refine pureA 4 98 #[true, true, true, true, true, false, false, false, false, false, false, false] (by kernel_rfl) ?_
             refine pureA 5 99 #[true, true, true, true, true, true, false, false, false, false, false, false] (by kernel_rfl) ?_
             refine takeA 6 100 #[true, true, true, true, true, true, true, false, false, false, false, false] (by kernel_rfl) hHeld ?_
             refine pureA 7 101 #[true, true, true, true, true, true, true, true, false, false, false, false] (by kernel_rfl) ?_
             clear hHeld
             refine join_ (σ := Value × Value × Nat) 1 #[true, true, true, true, true, true, true, true, true, true, true, false] (fun s_ => [(102, s_.1), (103, (.agg #[.bool y1, .int .i64 y2, .int .i64 y3, .int .i64 y4, s_.2.1, .int .i64 y6])), (20, .pointer (some ⟨s_.2.2, 0, none⟩))]) (fun s_ w' => (fun w' => w'.cell? ⟨gr, 0, none⟩ = some (.int .i64 a0_0) ∧ w'.cell? ⟨gr, 1, none⟩ = some (.int .i64 a0_1) ∧ w'.cell? ⟨gr, 2, none⟩ = some (.int .i64 a0_2) ∧ w'.cell? ⟨gy, 0, none⟩ = some (.int .i64 t.f0) ∧ w'.cell? ⟨gy, 1, none⟩ = some (.int .i64 t.f1) ∧ w'.cell? ⟨gy, 2, none⟩ = some (.int .i64 t.f2) ∧ w'.cell? ⟨ga, 2, none⟩ = some (.slice Ad1 dn1.length cd1)) w' ∧ SI w w' N2 ex2 okD1 okU okO (.slice Ad1 dn1.length cd1) (.slice Au up.length cu) u10 dn1 up out ∧ w'.heap[gr]? = some (.cells #[.int .i64 a0_0, .int .i64 a0_1, .int .i64 a0_2] 34 (0, 0)) ∧ w'.heap[ga]? = some (.cells #[.slice A2 l2.length c2, .int .i64 n1, .slice Ad1 dn1.length cd1, .slice Au up.length cu] 123 (0, 0)) ∧ w'.heap[gx]? = some (.cells #[.int .i64 x2, .int .i64 x3, .int .i64 x4, .int .i64 x5, .int .i64 x6] 29 (0, 0)) ∧ w'.heap[gy]? = some (.cells #[.int .i64 t.f0, .int .i64 t.f1, .int .i64 t.f2] 48 (0, 0)) ∧ w'.heap[g19]? = some (.cells #[.bool true, .int .i64 x2, .int .i64 x3, .int .i64 x4, .int .i64 x5, .int .i64 x6, .slice A6 xs.length c6] 32 (0, 0)) ∧ Kd.R k60 60 w' w.heap.size (fun k => N2 ≤ k ∧ k ≠ s_.2.2) s_.2.1 ys ∧ w'.heap[s_.2.2]? = some (.cells #[.bool false, .int .i64 0, .int .i64 0, .int .i64 0, .slice none 0 0, .int .i64 0] 50 (0, 0)) ∧ N2 ≤ s_.2.2) ?_ ?_
             rotate_left
             ·intro hCont
              refine two_ (i := 8) (j := 10) (Ni := some 102) (Nj := some 20) #[true, true, true, true, true, true, true, true, true, false, false, false] #[true, true, true, true, true, true, true, true, false, false, true, false] rfl rfl rfl rfl (by kernel_rfl) (by decide) (by decide) (fun K hK => ?_) (fun K hK => ?_)
              ·skip
               refine goesA Try.func80 #[.slice Ad1 dn1.length cd1, .int .i64 now] ?_
               refine (spec_l3due.calls kp Ad1 cd1 dn1 now pt _ HLC.out HLE.out HKP.out).mono ?_
               rintro e w11_p ⟨v75, rfl, hp, hb⟩
               refine ⟨_, rfl, ?_⟩
               have HP := Aside0.mk hp
               replace HI := Aside0.mk (SI.go HI.out hb); replace BR := bkb BR hb; replace BA := bkb BA hb; replace BX := bkb BX hb; replace BY := bkb BY hb; replace B19 := bkb B19 hb; replace HLC := Aside0.mk (Kd.C_below HLC.out hb)
               clear hp hb
               obtain ⟨Ap, cp, hvp⟩ := Kd.R_slice HP.out
               subst hvp
               refine hK.out _ _ ⟨b0 BR, b1 BR, b2 BR, b0 BY, b1 BY, b2 BY, b2 BA⟩ (fun hHeld => ?_)
               clear hK K hHeld
               refine normP ?_
               refine two_ (i := 9) (j := 10) (Ni := some 103) (Nj := some 20) #[true, true, true, true, true, true, true, true, true, true, false, false] #[true, true, true, true, true, true, true, true, true, false, true, false] rfl rfl rfl rfl (by kernel_rfl) (by decide) (by decide) (fun K hK => ?_) (fun K hK => ?_)
               ·skip
                have hrp := Kd.R_reads' HP.out
                refine goesA Try.func25 #[.agg #[.int .i64 a0_0, .int .i64 a0_1, .int .i64 a0_2], .int .i64 now, .agg #[.int .i64 t.f0, .int .i64 t.f1, .int .i64 t.f2], .slice Ap pt.length cp] ?_
                refine (spec_TrainTick.calls kp a0_0 a0_1 a0_2 now t.f0 t.f1 t.f2 Ap cp pt y1 y2 y3 y4 ys y6 _ hrp.2.2 hrp.2.1 HKT.out).mono ?_
                rintro e w12_pc ⟨v5, rfl, h6, hb⟩
                refine ⟨_, rfl, ?_⟩
                have hbN : N2 ≤ w11_p.heap.size := HI.out.hN
                have hbw : w.heap.size ≤ w11_p.heap.size := HI.out.size
                have H5 : Aside0 (Kd.R k60 60 w12_pc w.heap.size (fun k => N2 ≤ k) v5 ys) := ⟨Kd.R_lower (Kd.R_mono (Kd.R_bound h6) (fun k hk => Nat.le_trans hbN hk.2.1)) hbw⟩
                replace HI := Aside0.mk (SI.go HI.out hb); replace BR := bkb BR hb; replace BA := bkb BA hb; replace BX := bkb BX hb; replace BY := bkb BY hb; replace B19 := bkb B19 hb; replace HLC := Aside0.mk (Kd.C_below HLC.out hb)
                clear h6 hb hbN hbw hrp HP
                refine hK.out _ _ ⟨b0 BR, b1 BR, b2 BR, b0 BY, b1 BY, b2 BY, b2 BA⟩ (fun hHeld => ?_)
                clear hK K hHeld
                refine normP ?_
                refine one_ (i := 10) (N := some 20) #[true, true, true, true, true, true, true, true, true, true, true, false] rfl rfl (by kernel_rfl) (by decide) (fun K hK => ?_)
                refine event_step (w1 := w12_pc.alloc (.cells #[.bool false, .int .i64 0, .int .i64 0, .int .i64 0, .slice none 0 0, .int .i64 0] 50)) (v := .pointer (some ⟨w12_pc.heap.size, 0, none⟩)) (by rfl) (by first | (go_simp; done) | (go_simp; rfl)) ?_
                have hb := below_alloc (Below.refl w12_pc.heap.size w12_pc) (.cells #[.bool false, .int .i64 0, .int .i64 0, .int .i64 0, .slice none 0 0, .int .i64 0] 50)
                have HG3 := Aside0.mk (blk_new w12_pc (.cells #[.bool false, .int .i64 0, .int .i64 0, .int .i64 0, .slice none 0 0, .int .i64 0] 50))
                have NG3 := Aside0.mk HI.out.hN
                have H5' : Aside0 (Kd.R k60 60 w12_pc w.heap.size (fun k => N2 ≤ k ∧ k ≠ w12_pc.heap.size) v5 ys) := ⟨Kd.R_elderB H5.out _ (Nat.le_refl _)⟩
                clear H5
                have H5 := H5'
                clear H5'
                replace HI := Aside0.mk (SI.go HI.out hb); replace BR := bkb BR hb; replace BA := bkb BA hb; replace BX := bkb BX hb; replace BY := bkb BY hb; replace B19 := bkb B19 hb; replace HLC := Aside0.mk (Kd.C_below HLC.out hb); replace H5 := Aside0.mk (Kd.R_below H5.out hb)
                clear hb
                generalize w12_pc.alloc (.cells #[.bool false, .int .i64 0, .int .i64 0, .int .i64 0, .slice none 0 0, .int .i64 0] 50) = w13_cpa at HI BR BA BX BY B19 HLC HG3 H5 ⊢
                obtain ⟨g20, hg19⟩ : ∃ x, x = w12_pc.heap.size := ⟨_, rfl⟩
                rw [← hg19] at HG3 NG3 H5 ⊢
                clear hg19
                refine hK.out _ _ ⟨b0 BR, b1 BR, b2 BR, b0 BY, b1 BY, b2 BY, b2 BA⟩ (fun hHeld => ?_)
                clear hK K hHeld
                refine norm_ (a' := ?_) ?_ ?_
                rotate_left
                ·show Act.put _ (some 20) _ = _
                 simp only [Act.put, List.setIfInBounds_toArray, List.set_cons_zero, List.set_cons_succ, i64_w, i32_w]
                 rfl
                exact norm_ (by simp only [putAll, Act.put, List.setIfInBounds_toArray, List.set_cons_zero, List.set_cons_succ]) (hCont (.slice Ap pt.length cp, v5, g20) _ ⟨⟨b0 BR, b1 BR, b2 BR, b0 BY, b1 BY, b2 BY, b2 BA⟩, HI.out, BR.out, BA.out, BX.out, BY.out, B19.out, H5.out, HG3.out, NG3.out⟩)
               ·skip
                refine event_step (w1 := w11_p.alloc (.cells #[.bool false, .int .i64 0, .int .i64 0, .int .i64 0, .slice none 0 0, .int .i64 0] 50)) (v := .pointer (some ⟨w11_p.heap.size, 0, none⟩)) (by rfl) (by first | (go_simp; done) | (go_simp; rfl)) ?_
                have hb := below_alloc (Below.refl w11_p.heap.size w11_p) (.cells #[.bool false, .int .i64 0, .int .i64 0, .int .i64 0, .slice none 0 0, .int .i64 0] 50)
                have HG3 := Aside0.mk (blk_new w11_p (.cells #[.bool false, .int .i64 0, .int .i64 0, .int .i64 0, .slice none 0 0, .int .i64 0] 50))
                have NG3 := Aside0.mk HI.out.hN
                replace HI := Aside0.mk (SI.go HI.out hb); replace BR := bkb BR hb; replace BA := bkb BA hb; replace BX := bkb BX hb; replace BY := bkb BY hb; replace B19 := bkb B19 hb; replace HLC := Aside0.mk (Kd.C_below HLC.out hb); replace HP := Aside0.mk (Kd.R_below HP.out hb)
                clear hb
                generalize w11_p.alloc (.cells #[.bool false, .int .i64 0, .int .i64 0, .int .i64 0, .slice none 0 0, .int .i64 0] 50) = w12_pa at HI BR BA BX BY B19 HLC HG3 HP ⊢
                obtain ⟨g20, hg19⟩ : ∃ x, x = w11_p.heap.size := ⟨_, rfl⟩
                rw [← hg19] at HG3 NG3 ⊢
                clear hg19
                refine hK.out _ _ ⟨b0 BR, b1 BR, b2 BR, b0 BY, b1 BY, b2 BY, b2 BA⟩ (fun hHeld => ?_)
                clear hK K hHeld
                refine norm_ (a' := ?_) ?_ ?_
                rotate_left
                ·show Act.put _ (some 20) _ = _
                 simp only [Act.put, List.setIfInBounds_toArray, List.set_cons_zero, List.set_cons_succ, i64_w, i32_w]
                 rfl
                refine one_ (i := 9) (N := some 103) #[true, true, true, true, true, true, true, true, true, true, true, false] rfl rfl (by kernel_rfl) (by decide) (fun K hK => ?_)
                have hrp := Kd.R_reads' HP.out
                refine goesA Try.func25 #[.agg #[.int .i64 a0_0, .int .i64 a0_1, .int .i64 a0_2], .int .i64 now, .agg #[.int .i64 t.f0, .int .i64 t.f1, .int .i64 t.f2], .slice Ap pt.length cp] ?_
                refine (spec_TrainTick.calls kp a0_0 a0_1 a0_2 now t.f0 t.f1 t.f2 Ap cp pt y1 y2 y3 y4 ys y6 _ hrp.2.2 hrp.2.1 HKT.out).mono ?_
                rintro e w13_apc ⟨v5, rfl, h6, hb⟩
                refine ⟨_, rfl, ?_⟩
                have hbN : N2 ≤ w12_pa.heap.size := HI.out.hN
                have hbw : w.heap.size ≤ w12_pa.heap.size := HI.out.size
                have hgl := blk_lt HG3.out
                have H5 : Aside0 (Kd.R k60 60 w13_apc w.heap.size (fun k => N2 ≤ k ∧ k ≠ g20) v5 ys) := ⟨Kd.R_lower (Kd.R_mono (Kd.R_bound h6) (fun k hk => ⟨Nat.le_trans hbN hk.2.1, by have := hk.2.1; omega⟩)) hbw⟩
                clear hgl
                replace HI := Aside0.mk (SI.go HI.out hb); replace BR := bkb BR hb; replace BA := bkb BA hb; replace BX := bkb BX hb; replace BY := bkb BY hb; replace B19 := bkb B19 hb; replace HLC := Aside0.mk (Kd.C_below HLC.out hb); replace HG3 := bkb HG3 hb
                clear h6 hb hbN hbw hrp HP
                refine hK.out _ _ ⟨b0 BR, b1 BR, b2 BR, b0 BY, b1 BY, b2 BY, b2 BA⟩ (fun hHeld => ?_)
                clear hK K hHeld
                refine normP ?_
                exact norm_ (by simp only [putAll, Act.put, List.setIfInBounds_toArray, List.set_cons_zero, List.set_cons_succ]) (hCont (.slice Ap pt.length cp, v5, g20) _ ⟨⟨b0 BR, b1 BR, b2 BR, b0 BY, b1 BY, b2 BY, b2 BA⟩, HI.out, BR.out, BA.out, BX.out, BY.out, B19.out, H5.out, HG3.out, NG3.out⟩)
              ·skip
               refine event_step (w1 := wi.alloc (.cells #[.bool false, .int .i64 0, .int .i64 0, .int .i64 0, .slice none 0 0, .int .i64 0] 50)) (v := .pointer (some ⟨wi.heap.size, 0, none⟩)) (by rfl) (by first | (go_simp; done) | (go_simp; rfl)) ?_
               have hb := below_alloc (Below.refl wi.heap.size wi) (.cells #[.bool false, .int .i64 0, .int .i64 0, .int .i64 0, .slice none 0 0, .int .i64 0] 50)
               have HG3 := Aside0.mk (blk_new wi (.cells #[.bool false, .int .i64 0, .int .i64 0, .int .i64 0, .slice none 0 0, .int .i64 0] 50))
               have NG3 := Aside0.mk HI.out.hN
               replace HI := Aside0.mk (SI.go HI.out hb); replace BR := bkb BR hb; replace BA := bkb BA hb; replace BX := bkb BX hb; replace BY := bkb BY hb; replace B19 := bkb B19 hb; replace HLC := Aside0.mk (Kd.C_below HLC.out hb)
               clear hb
               generalize wi.alloc (.cells #[.bool false, .int .i64 0, .int .i64 0, .int .i64 0, .slice none 0 0, .int .i64 0] 50) = w11_a at HI BR BA BX BY B19 HLC HG3 ⊢
               obtain ⟨g20, hg19⟩ : ∃ x, x = wi.heap.size := ⟨_, rfl⟩
               rw [← hg19] at HG3 NG3 ⊢
               clear hg19
               refine hK.out _ _ ⟨b0 BR, b1 BR, b2 BR, b0 BY, b1 BY, b2 BY, b2 BA⟩ (fun hHeld => ?_)
               clear hK K hHeld
               refine norm_ (a' := ?_) ?_ ?_
               rotate_left
               ·show Act.put _ (some 20) _ = _
                simp only [Act.put, List.setIfInBounds_toArray, List.set_cons_zero, List.set_cons_succ, i64_w, i32_w]
                rfl
               refine one_ (i := 8) (N := some 102) #[true, true, true, true, true, true, true, true, true, false, true, false] rfl rfl (by kernel_rfl) (by decide) (fun K hK => ?_)
               refine goesA Try.func80 #[.slice Ad1 dn1.length cd1, .int .i64 now] ?_
               refine (spec_l3due.calls kp Ad1 cd1 dn1 now pt _ HLC.out HLE.out HKP.out).mono ?_
               rintro e w12_ap ⟨v75, rfl, hp, hb⟩
               refine ⟨_, rfl, ?_⟩
               have HP := Aside0.mk hp
               replace HI := Aside0.mk (SI.go HI.out hb); replace BR := bkb BR hb; replace BA := bkb BA hb; replace BX := bkb BX hb; replace BY := bkb BY hb; replace B19 := bkb B19 hb; replace HLC := Aside0.mk (Kd.C_below HLC.out hb); replace HG3 := bkb HG3 hb
               clear hp hb
               obtain ⟨Ap, cp, hvp⟩ := Kd.R_slice HP.out
               subst hvp
               refine hK.out _ _ ⟨b0 BR, b1 BR, b2 BR, b0 BY, b1 BY, b2 BY, b2 BA⟩ (fun hHeld => ?_)
               clear hK K hHeld
               refine normP ?_
               refine one_ (i := 9) (N := some 103) #[true, true, true, true, true, true, true, true, true, true, true, false] rfl rfl (by kernel_rfl) (by decide) (fun K hK => ?_)
               have hrp := Kd.R_reads' HP.out
               refine goesA Try.func25 #[.agg #[.int .i64 a0_0, .int .i64 a0_1, .int .i64 a0_2], .int .i64 now, .agg #[.int .i64 t.f0, .int .i64 t.f1, .int .i64 t.f2], .slice Ap pt.length cp] ?_
               refine (spec_TrainTick.calls kp a0_0 a0_1 a0_2 now t.f0 t.f1 t.f2 Ap cp pt y1 y2 y3 y4 ys y6 _ hrp.2.2 hrp.2.1 HKT.out).mono ?_
               rintro e w13_apc ⟨v5, rfl, h6, hb⟩
               refine ⟨_, rfl, ?_⟩
               have hbN : N2 ≤ w12_ap.heap.size := HI.out.hN
               have hbw : w.heap.size ≤ w12_ap.heap.size := HI.out.size
               have hgl := blk_lt HG3.out
               have H5 : Aside0 (Kd.R k60 60 w13_apc w.heap.size (fun k => N2 ≤ k ∧ k ≠ g20) v5 ys) := ⟨Kd.R_lower (Kd.R_mono (Kd.R_bound h6) (fun k hk => ⟨Nat.le_trans hbN hk.2.1, by have := hk.2.1; omega⟩)) hbw⟩
               clear hgl
               replace HI := Aside0.mk (SI.go HI.out hb); replace BR := bkb BR hb; replace BA := bkb BA hb; replace BX := bkb BX hb; replace BY := bkb BY hb; replace B19 := bkb B19 hb; replace HLC := Aside0.mk (Kd.C_below HLC.out hb); replace HG3 := bkb HG3 hb
               clear h6 hb hbN hbw hrp HP
               refine hK.out _ _ ⟨b0 BR, b1 BR, b2 BR, b0 BY, b1 BY, b2 BY, b2 BA⟩ (fun hHeld => ?_)
               clear hK K hHeld
               refine normP ?_
               exact norm_ (by simp only [putAll, Act.put, List.setIfInBounds_toArray, List.set_cons_zero, List.set_cons_succ]) (hCont (.slice Ap pt.length cp, v5, g20) _ ⟨⟨b0 BR, b1 BR, b2 BR, b0 BY, b1 BY, b2 BY, b2 BA⟩, HI.out, BR.out, BA.out, BX.out, BY.out, B19.out, H5.out, HG3.out, NG3.out⟩)
             rintro ⟨v75, v5, g20⟩ wj ⟨hHeld, HI2, hBR, hBA, hBX, hBY, hB19, H5, HG3, NG3⟩
             clear HI BR BA BX BY B19 HLC  hHeld
             have HI := Aside0.mk HI2
             have BR := Aside0.mk hBR
             have BA := Aside0.mk hBA
             have BX := Aside0.mk hBX
             have BY := Aside0.mk hBY
             have B19 := Aside0.mk hB19
             replace H5 : Aside0 (Kd.R k60 60 wj w.heap.size (fun k => N2 ≤ k ∧ k ≠ g20) v5 ys) := ⟨H5⟩
             replace HG3 : Aside0 (wj.heap[g20]? = some (.cells #[.bool false, .int .i64 0, .int .i64 0, .int .i64 0, .slice none 0 0, .int .i64 0] 50 (0, 0))) := ⟨HG3⟩
             replace NG3 : Aside0 (N2 ≤ g20) := ⟨NG3⟩
             clear HI2 hBR hBA hBX hBY hB19
             refine normA ?_
             refine last_ (i := 11) (N := none) #[true, true, true, true, true, true, true, true, true, true, true, true] rfl rfl (by kernel_rfl) (by decide) (fun K hK => ?_)
             have k0 := b0 HG3; have z0 := blk_frozen HG3.out 0
             have k1 := b1 HG3; have z1 := blk_frozen HG3.out 1
             have k2 := b2 HG3; have z2 := blk_frozen HG3.out 2
             have k3 := b3 HG3; have z3 := blk_frozen HG3.out 3
             have k4 := b4 HG3; have z4 := blk_frozen HG3.out 4
             have k5 := b5 HG3; have z5 := blk_frozen HG3.out 5
             obtain ⟨A5, c5, hv6⟩ := Kd.R_slice H5.out
             refine skip_ (w1 := ((((((wj.setCell ⟨g20, 0, none⟩ (.bool y1)).setCell ⟨g20, 1, none⟩ (.int .i64 y2)).setCell ⟨g20, 2, none⟩ (.int .i64 y3)).setCell ⟨g20, 3, none⟩ (.int .i64 y4)).setCell ⟨g20, 4, none⟩ (v5)).setCell ⟨g20, 5, none⟩ (.int .i64 y6))) (by rfl) rfl (by subst hv6; first | (go_simp; done) | (go_simp; rfl)) ?_
             clear z0 k0 z1 k1 z2 k2 z3 k3 z4 k4 z5 k5
             have hneBR : gr ≠ g20 := fun h => by have := LR.out; have := NG3.out; omega
             have hneBA : ga ≠ g20 := fun h => by have := LA.out; have := NG3.out; omega
             have hneBX : gx ≠ g20 := fun h => by have := LX.out; have := NG3.out; omega
             have hneBY : gy ≠ g20 := fun h => by have := LY.out; have := NG3.out; omega
             have hneB19 : g19 ≠ g20 := fun h => by have := L19.out; have := NG3.out; omega
             replace HI := Aside0.mk (SI.set (j := 5) (SI.set (j := 4) (SI.set (j := 3) (SI.set (j := 2) (SI.set (j := 1) (SI.set (j := 0) (HI.out) (.inr NG3.out) (.bool y1)) (.inr NG3.out) (.int .i64 y2)) (.inr NG3.out) (.int .i64 y3)) (.inr NG3.out) (.int .i64 y4)) (.inr NG3.out) (v5)) (.inr NG3.out) (.int .i64 y6))
             replace BR := Aside0.mk (blk_far (p := ⟨g20, 5, none⟩) (blk_far (p := ⟨g20, 4, none⟩) (blk_far (p := ⟨g20, 3, none⟩) (blk_far (p := ⟨g20, 2, none⟩) (blk_far (p := ⟨g20, 1, none⟩) (blk_far (p := ⟨g20, 0, none⟩) (BR.out) (hneBR) (.bool y1)) (hneBR) (.int .i64 y2)) (hneBR) (.int .i64 y3)) (hneBR) (.int .i64 y4)) (hneBR) (v5)) (hneBR) (.int .i64 y6))
             replace BA := Aside0.mk (blk_far (p := ⟨g20, 5, none⟩) (blk_far (p := ⟨g20, 4, none⟩) (blk_far (p := ⟨g20, 3, none⟩) (blk_far (p := ⟨g20, 2, none⟩) (blk_far (p := ⟨g20, 1, none⟩) (blk_far (p := ⟨g20, 0, none⟩) (BA.out) (hneBA) (.bool y1)) (hneBA) (.int .i64 y2)) (hneBA) (.int .i64 y3)) (hneBA) (.int .i64 y4)) (hneBA) (v5)) (hneBA) (.int .i64 y6))
             replace BX := Aside0.mk (blk_far (p := ⟨g20, 5, none⟩) (blk_far (p := ⟨g20, 4, none⟩) (blk_far (p := ⟨g20, 3, none⟩) (blk_far (p := ⟨g20, 2, none⟩) (blk_far (p := ⟨g20, 1, none⟩) (blk_far (p := ⟨g20, 0, none⟩) (BX.out) (hneBX) (.bool y1)) (hneBX) (.int .i64 y2)) (hneBX) (.int .i64 y3)) (hneBX) (.int .i64 y4)) (hneBX) (v5)) (hneBX) (.int .i64 y6))
             replace BY := Aside0.mk (blk_far (p := ⟨g20, 5, none⟩) (blk_far (p := ⟨g20, 4, none⟩) (blk_far (p := ⟨g20, 3, none⟩) (blk_far (p := ⟨g20, 2, none⟩) (blk_far (p := ⟨g20, 1, none⟩) (blk_far (p := ⟨g20, 0, none⟩) (BY.out) (hneBY) (.bool y1)) (hneBY) (.int .i64 y2)) (hneBY) (.int .i64 y3)) (hneBY) (.int .i64 y4)) (hneBY) (v5)) (hneBY) (.int .i64 y6))
             replace B19 := Aside0.mk (blk_far (p := ⟨g20, 5, none⟩) (blk_far (p := ⟨g20, 4, none⟩) (blk_far (p := ⟨g20, 3, none⟩) (blk_far (p := ⟨g20, 2, none⟩) (blk_far (p := ⟨g20, 1, none⟩) (blk_far (p := ⟨g20, 0, none⟩) (B19.out) (hneB19) (.bool y1)) (hneB19) (.int .i64 y2)) (hneB19) (.int .i64 y3)) (hneB19) (.int .i64 y4)) (hneB19) (v5)) (hneB19) (.int .i64 y6))
             replace HG3 := Aside0.mk (blk_put (cs := #[.bool y1, .int .i64 y2, .int .i64 y3, .int .i64 y4, v5, .int .i64 0]) (cs' := #[.bool y1, .int .i64 y2, .int .i64 y3, .int .i64 y4, v5, .int .i64 y6]) (blk_put (cs := #[.bool y1, .int .i64 y2, .int .i64 y3, .int .i64 y4, .slice none 0 0, .int .i64 0]) (cs' := #[.bool y1, .int .i64 y2, .int .i64 y3, .int .i64 y4, v5, .int .i64 0]) (blk_put (cs := #[.bool y1, .int .i64 y2, .int .i64 y3, .int .i64 0, .slice none 0 0, .int .i64 0]) (cs' := #[.bool y1, .int .i64 y2, .int .i64 y3, .int .i64 y4, .slice none 0 0, .int .i64 0]) (blk_put (cs := #[.bool y1, .int .i64 y2, .int .i64 0, .int .i64 0, .slice none 0 0, .int .i64 0]) (cs' := #[.bool y1, .int .i64 y2, .int .i64 y3, .int .i64 0, .slice none 0 0, .int .i64 0]) (blk_put (cs := #[.bool y1, .int .i64 0, .int .i64 0, .int .i64 0, .slice none 0 0, .int .i64 0]) (cs' := #[.bool y1, .int .i64 y2, .int .i64 0, .int .i64 0, .slice none 0 0, .int .i64 0]) (blk_put (cs := #[.bool false, .int .i64 0, .int .i64 0, .int .i64 0, .slice none 0 0, .int .i64 0]) (cs' := #[.bool y1, .int .i64 0, .int .i64 0, .int .i64 0, .slice none 0 0, .int .i64 0]) (HG3.out) 0 (.bool y1) rfl) 1 (.int .i64 y2) rfl) 2 (.int .i64 y3) rfl) 3 (.int .i64 y4) rfl) 4 (v5) rfl) 5 (.int .i64 y6) rfl)
             replace H5 := Aside0.mk (Kd.R_far (p := ⟨g20, 5, none⟩) (Kd.R_far (p := ⟨g20, 4, none⟩) (Kd.R_far (p := ⟨g20, 3, none⟩) (Kd.R_far (p := ⟨g20, 2, none⟩) (Kd.R_far (p := ⟨g20, 1, none⟩) (Kd.R_far (p := ⟨g20, 0, none⟩) (H5.out) ((fun _ h => h.2)) (.bool y1)) ((fun _ h => h.2)) (.int .i64 y2)) ((fun _ h => h.2)) (.int .i64 y3)) ((fun _ h => h.2)) (.int .i64 y4)) ((fun _ h => h.2)) (v5)) ((fun _ h => h.2)) (.int .i64 y6))
             generalize ((((((wj.setCell ⟨g20, 0, none⟩ (.bool y1)).setCell ⟨g20, 1, none⟩ (.int .i64 y2)).setCell ⟨g20, 2, none⟩ (.int .i64 y3)).setCell ⟨g20, 3, none⟩ (.int .i64 y4)).setCell ⟨g20, 4, none⟩ (v5)).setCell ⟨g20, 5, none⟩ (.int .i64 y6)) = wk at HI BR BA BX BY B19 HG3 H5 ⊢
             clear hneBR hneBA hneBX hneBY hneB19
             subst hv6
             refine hK.out _ _ ?_
             clear hK K
             refine done_ (by kernel_rfl) ?_
             have k0 := b0 HG3; have k1q := b1 HG3; have k2 := b2 HG3; have k3 := b3 HG3
             cases y1 with
             | false =>
              have HRN : Aside0 (r = []) := ⟨by rw [← HA.out]; exact run_train HXX.out (by rw [← HRT.out, ← HPT.out]; exact HY.out.symm)⟩
              go_wp2
              go_ret
              exact ⟨_, rfl, by rw [HRN.out]; exact Kd.R_nil _ _ _ _ _, HI.out.below⟩
             | true =>
              have HYL := Aside0.mk (train_sent HY.out)
              have HYK := Aside0.mk (train_kind HY.out)
              have HYY : Aside0 (trainF a0_0 a0_1 a0_2 now t (pks ((sendL l2 now a3 xs n rT).1.getD now.toNat [])) = (true, y2, y3, y4, ys, y6)) := ⟨by rw [← HRT.out, ← HPT.out]; exact HY.out.symm⟩
              have u0 := b0 BY; have u1 := b1 BY; have u2 := b2 BY; have e0 := blk_frozen BY.out 0; have e1 := blk_frozen BY.out 1; have e2 := blk_frozen BY.out 2
              have hnx1 : g20 ≠ gy := fun h => by have := LY.out; have := NG3.out; omega
              have hny19 : g19 ≠ gy := fun h => by have := LY0.out; have := NG.out; omega
              go_upto_region 30 with (fail)
              clear u0 u1 u2 e0 e1 e2 k0 k1q k2 k3
              have hne1 : ∀ k, N2 ≤ k ∧ k ≠ g20 → k ≠ gy := fun k hk h => by have := LY.out; have := hk.1; omega
              replace HI := Aside0.mk (SI.set (j := 2) (SI.set (j := 1) (SI.set (j := 0) (HI.out) (.inl XY.out) (.int .i64 y2)) (.inl XY.out) (.int .i64 y3)) (.inl XY.out) (.int .i64 y4))
              replace BR := Aside0.mk (blk_far (p := ⟨gy, 2, none⟩) (blk_far (p := ⟨gy, 1, none⟩) (blk_far (p := ⟨gy, 0, none⟩) (BR.out) (NRY.out) (.int .i64 y2)) (NRY.out) (.int .i64 y3)) (NRY.out) (.int .i64 y4))
              replace BA := Aside0.mk (blk_far (p := ⟨gy, 2, none⟩) (blk_far (p := ⟨gy, 1, none⟩) (blk_far (p := ⟨gy, 0, none⟩) (BA.out) (NAY.out) (.int .i64 y2)) (NAY.out) (.int .i64 y3)) (NAY.out) (.int .i64 y4))
              replace BX := Aside0.mk (blk_far (p := ⟨gy, 2, none⟩) (blk_far (p := ⟨gy, 1, none⟩) (blk_far (p := ⟨gy, 0, none⟩) (BX.out) (NXY.out) (.int .i64 y2)) (NXY.out) (.int .i64 y3)) (NXY.out) (.int .i64 y4))
              replace B19 := Aside0.mk (blk_far (p := ⟨gy, 2, none⟩) (blk_far (p := ⟨gy, 1, none⟩) (blk_far (p := ⟨gy, 0, none⟩) (B19.out) (hny19) (.int .i64 y2)) (hny19) (.int .i64 y3)) (hny19) (.int .i64 y4))
              replace HG3 := Aside0.mk (blk_far (p := ⟨gy, 2, none⟩) (blk_far (p := ⟨gy, 1, none⟩) (blk_far (p := ⟨gy, 0, none⟩) (HG3.out) (hnx1) (.int .i64 y2)) (hnx1) (.int .i64 y3)) (hnx1) (.int .i64 y4))
              replace BY := Aside0.mk (blk_put (cs := #[.int .i64 y2, .int .i64 y3, .int .i64 t.f2]) (cs' := #[.int .i64 y2, .int .i64 y3, .int .i64 y4]) (blk_put (cs := #[.int .i64 y2, .int .i64 t.f1, .int .i64 t.f2]) (cs' := #[.int .i64 y2, .int .i64 y3, .int .i64 t.f2]) (blk_put (cs := #[.int .i64 t.f0, .int .i64 t.f1, .int .i64 t.f2]) (cs' := #[.int .i64 y2, .int .i64 t.f1, .int .i64 t.f2]) (BY.out) 0 (.int .i64 y2) rfl) 1 (.int .i64 y3) rfl) 2 (.int .i64 y4) rfl)
              replace H5 := Aside0.mk (Kd.R_far (p := ⟨gy, 2, none⟩) (Kd.R_far (p := ⟨gy, 1, none⟩) (Kd.R_far (p := ⟨gy, 0, none⟩) (H5.out) (hne1) (.int .i64 y2)) (hne1) (.int .i64 y3)) (hne1) (.int .i64 y4))
              generalize (((wk.setCell ⟨gy, 0, none⟩ (.int .i64 y2)).setCell ⟨gy, 1, none⟩ (.int .i64 y3)).setCell ⟨gy, 2, none⟩ (.int .i64 y4)) = wl at HI BR BA BX B19 HG3 BY H5 ⊢
              clear hne1 hnx1 hny19
              have B20 := HG3
              clear HG3
              have LA2 := LA
              have HIW := Aside0.mk HI.out.wide
              obtain ⟨N3, hN1⟩ : ∃ x, x = wl.heap.size := ⟨_, rfl⟩
              replace LR := Aside0.mk (hN1 ▸ blk_lt BR.out)
              replace LA := Aside0.mk (hN1 ▸ blk_lt BA.out)
              replace LX := Aside0.mk (hN1 ▸ blk_lt BX.out)
              replace LY := Aside0.mk (hN1 ▸ blk_lt BY.out)
              have L20 := Aside0.mk (hN1 ▸ blk_lt B20.out)
              replace L19 := Aside0.mk (hN1 ▸ blk_lt B19.out)
              rw [← hN1] at HIW
              have HNNN3 : Aside0 (N2 ≤ N3) := ⟨by rw [hN1]; exact HI.out.hN⟩
              obtain ⟨ex3, hex1⟩ : ∃ e : Nat → Prop, e = (fun k => ex2 k ∨ (N2 ≤ k ∧ k < N3)) := ⟨_, rfl⟩
              replace XR : Aside0 (ex3 gr) := ⟨by rw [hex1]; exact .inl XR.out⟩
              replace XA : Aside0 (ex3 ga) := ⟨by rw [hex1]; exact .inl XA.out⟩
              replace XX : Aside0 (ex3 gx) := ⟨by rw [hex1]; exact .inl XX.out⟩
              replace XY : Aside0 (ex3 gy) := ⟨by rw [hex1]; exact .inl XY.out⟩
              replace X19 : Aside0 (ex3 g19) := ⟨by rw [hex1]; exact .inl X19.out⟩
              have X20 : Aside0 (ex3 g20) := ⟨by rw [hex1]; exact .inr ⟨NG3.out, L20.out⟩⟩
              replace HEX : Aside0 (∀ k, (k = gr ∨ k = ga ∨ k = gx ∨ k = gy) → ex3 k) := ⟨fun k hk => by rw [hex1]; exact .inl (HEX.out k hk)⟩
              have P6N3 : Aside0 (∀ k, N2 ≤ k → k < N3 → ex3 k) := ⟨fun k h1 h2 => by rw [hex1]; exact .inr ⟨h1, h2⟩⟩
              replace H5 : Aside0 (Kd.R k60 60 wl w.heap.size (fun k => N2 ≤ k ∧ k < N3) (.slice A5 ys.length c5) ys) := ⟨Kd.R_mono (Kd.R_bound H5.out) (fun k hk => ⟨hk.1.1, by rw [hN1]; exact hk.2.2.1⟩)⟩
              rw [← hex1] at HIW
              clear HI hex1 hN1
              have HI := HIW
              clear HIW
              have k6 := b4 B20
              go_wp2
              clear k6
              go_loopg [112] ys.length (fun kq v112 w' => ∃ (x ni : Int) (dni : List S146) (vDi : Value) (okDi exi : Nat → Prop) (Ni : Nat), v112 = .int .i64 x ∧ Aside0 (0 ≤ x ∧ x.toNat + kq = ys.length ∧ ni = n1 + x ∧ dni.length ≤ 10 * min ni.toNat l2.length) ∧ Aside0 (sendsD l2 now (ys.drop x.toNat) ni dni = sendsD l2 now ys n1 up) ∧ Aside0 ((∀ k, ex3 k → exi k) ∧ N3 ≤ Ni) ∧ Aside0 (SI w w' Ni exi okD1 okDi okO (.slice Ad1 dn1.length cd1) (vDi) u10 dn1 dni out) ∧ Aside0 (Kd.R k60 60 w' w.heap.size (fun k => N2 ≤ k ∧ k < N3) (.slice A5 ys.length c5) ys) ∧ Aside0 (w'.heap[gr]? = some (.cells #[.int .i64 a0_0, .int .i64 a0_1, .int .i64 a0_2] 34 (0, 0))) ∧ Aside0 (w'.heap[ga]? = some (.cells #[.slice A2 l2.length c2, .int .i64 ni, .slice Ad1 dn1.length cd1, vDi] 123 (0, 0))) ∧ Aside0 (w'.heap[gx]? = some (.cells #[.int .i64 x2, .int .i64 x3, .int .i64 x4, .int .i64 x5, .int .i64 x6] 29 (0, 0))) ∧ Aside0 (w'.heap[gy]? = some (.cells #[.int .i64 y2, .int .i64 y3, .int .i64 y4] 48 (0, 0))) ∧ Aside0 (w'.heap[g19]? = some (.cells #[.bool true, .int .i64 x2, .int .i64 x3, .int .i64 x4, .int .i64 x5, .int .i64 x6, .slice A6 xs.length c6] 32 (0, 0))) ∧ Aside0 (w'.heap[g20]? = some (.cells #[.bool true, .int .i64 y2, .int .i64 y3, .int .i64 y4, .slice A5 ys.length c5, .int .i64 y6] 50 (0, 0))))
              case atStart => exact ⟨0, n1, up, _, okU, ex3, N3, rfl, ⟨by omega, by simp, by omega, by have := HJ.out; have := HN1.out; omega⟩, ⟨by simp⟩, ⟨fun _ h => h, Nat.le_refl _⟩, HI, H5, BR, BA, BX, BY, B19, B20⟩
              case round =>
               clear HI H5 BR BA BX BY B19 B20
               obtain ⟨x, ni, dni, vDi, okDi, exi, Ni, rfl, HV, HA3, HEI, HI, H5, BR, BA, BX, BY, B19, B20⟩ := hrel
               obtain ⟨Ai, ci, hvi⟩ := Kd.R_slice HI.out.hU
               subst hvi
               by_cases hx : x < (ys.length : Int)
               ·obtain ⟨k2, rfl⟩ : ∃ k2, gk = k2 + 1 := ⟨gk - 1, by have := HV.out; omega⟩
                have d1 : decide (x < (ys.length : Int)) = true := decide_eq_true hx
                obtain ⟨ad1, e1, hx0, hx1, hx2, hx3⟩ := at_T60 (Kd.R_reads' H5.out).2.2 x HV.out.1 hx
                cases e1
                have p1 : (0 ≤ x) = True := eq_true HV.out.1
                have q1 : (x < (ys.length : Int)) = True := eq_true hx
                have wx : wrap64 (x + 1) = x + 1 := Go.Proofs.Ytndffnacbfdnoaa.Plain.w64 (by have := HV.out; omega) (by have := HYL.out; omega)
                have HLX := Aside0.mk hx
                have HKD : Aside0 ((rd_T60 ys x).f0 = 2) := ⟨HYK.out _ (mem60 HV.out.1 hx)⟩
                have HA4 : Aside0 (sendsD l2 now (ys.drop (x + 1).toNat) (ni + 1) (sendD l2 now (rd_T60 ys x) ni dni) = sendsD l2 now ys n1 up) := ⟨by rw [← HA3.out, drop60 HV.out.1 hx]; rfl⟩
                have HDL : Aside0 ((sendD l2 now (rd_T60 ys x) ni dni).length ≤ 10 * min (ni + 1).toNat l2.length) := ⟨sendD_len HG.out.fa now _ (by have := HV.out; have := HJ.out; have := HN1.out; omega) HV.out.2.2.2⟩
                clear hx
                go_upto_region 33 with (first | ((with_reducible refine gate_dst (N := 22) rfl ?_); refine boxA #[.int .i64 0, .int .i64 0, .int .i64 0, .int .i64 0] 60 ?_; intro gq hg w2_ hbox hb; have NRQ := nlt BR hg; have NAQ := nlt BA hg; have NXQ := nlt BX hg; have NYQ := nlt BY hg; have N19Q := nlt B19 hg; have N20Q := nlt B20 hg; have NGQ : Aside0 (Ni ≤ gq) := ⟨by rw [hg]; exact HI.out.hN⟩; have BQ := Aside0.mk hbox; replace HI := Aside0.mk (SI.go HI.out hb); replace BR := bkb BR hb; replace BA := bkb BA hb; replace BX := bkb BX hb; replace BY := bkb BY hb; replace B19 := bkb B19 hb; replace B20 := bkb B20 hb; replace H5 := Aside0.mk (Kd.R_below H5.out hb); have y0 := b0 BQ; have e0 := blk_frozen BQ.out 0; have y1 := b1 BQ; have e1 := blk_frozen BQ.out 1; have y2 := b2 BQ; have e2 := blk_frozen BQ.out 2; have y3 := b3 BQ; have e3 := blk_frozen BQ.out 3; clear hx0 hx1 hx2 hx3; clear hg hbox hb))
                clear y0 e0 y1 e1 y2 e2 y3 e3 p1 q1 d1
                have hnq : ∀ k, N2 ≤ k ∧ k < N3 → k ≠ gq := fun k hk h => by have := NGQ.out; have := HEI.out.2; have := hk.2; omega
                replace HI := Aside0.mk (SI.set (j := 3) (SI.set (j := 2) (SI.set (j := 1) (SI.set (j := 0) (HI.out) (.inr NGQ.out) (.int .i64 (rd_T60 ys x).f0)) (.inr NGQ.out) (.int .i64 (rd_T60 ys x).f1)) (.inr NGQ.out) (.int .i64 (rd_T60 ys x).f2)) (.inr NGQ.out) (.int .i64 (rd_T60 ys x).f3))
                replace BR := Aside0.mk (blk_far (p := ⟨gq, 3, none⟩) (blk_far (p := ⟨gq, 2, none⟩) (blk_far (p := ⟨gq, 1, none⟩) (blk_far (p := ⟨gq, 0, none⟩) (BR.out) (NRQ.out) (.int .i64 (rd_T60 ys x).f0)) (NRQ.out) (.int .i64 (rd_T60 ys x).f1)) (NRQ.out) (.int .i64 (rd_T60 ys x).f2)) (NRQ.out) (.int .i64 (rd_T60 ys x).f3))
                replace BA := Aside0.mk (blk_far (p := ⟨gq, 3, none⟩) (blk_far (p := ⟨gq, 2, none⟩) (blk_far (p := ⟨gq, 1, none⟩) (blk_far (p := ⟨gq, 0, none⟩) (BA.out) (NAQ.out) (.int .i64 (rd_T60 ys x).f0)) (NAQ.out) (.int .i64 (rd_T60 ys x).f1)) (NAQ.out) (.int .i64 (rd_T60 ys x).f2)) (NAQ.out) (.int .i64 (rd_T60 ys x).f3))
                replace BX := Aside0.mk (blk_far (p := ⟨gq, 3, none⟩) (blk_far (p := ⟨gq, 2, none⟩) (blk_far (p := ⟨gq, 1, none⟩) (blk_far (p := ⟨gq, 0, none⟩) (BX.out) (NXQ.out) (.int .i64 (rd_T60 ys x).f0)) (NXQ.out) (.int .i64 (rd_T60 ys x).f1)) (NXQ.out) (.int .i64 (rd_T60 ys x).f2)) (NXQ.out) (.int .i64 (rd_T60 ys x).f3))
                replace BY := Aside0.mk (blk_far (p := ⟨gq, 3, none⟩) (blk_far (p := ⟨gq, 2, none⟩) (blk_far (p := ⟨gq, 1, none⟩) (blk_far (p := ⟨gq, 0, none⟩) (BY.out) (NYQ.out) (.int .i64 (rd_T60 ys x).f0)) (NYQ.out) (.int .i64 (rd_T60 ys x).f1)) (NYQ.out) (.int .i64 (rd_T60 ys x).f2)) (NYQ.out) (.int .i64 (rd_T60 ys x).f3))
                replace B19 := Aside0.mk (blk_far (p := ⟨gq, 3, none⟩) (blk_far (p := ⟨gq, 2, none⟩) (blk_far (p := ⟨gq, 1, none⟩) (blk_far (p := ⟨gq, 0, none⟩) (B19.out) (N19Q.out) (.int .i64 (rd_T60 ys x).f0)) (N19Q.out) (.int .i64 (rd_T60 ys x).f1)) (N19Q.out) (.int .i64 (rd_T60 ys x).f2)) (N19Q.out) (.int .i64 (rd_T60 ys x).f3))
                replace B20 := Aside0.mk (blk_far (p := ⟨gq, 3, none⟩) (blk_far (p := ⟨gq, 2, none⟩) (blk_far (p := ⟨gq, 1, none⟩) (blk_far (p := ⟨gq, 0, none⟩) (B20.out) (N20Q.out) (.int .i64 (rd_T60 ys x).f0)) (N20Q.out) (.int .i64 (rd_T60 ys x).f1)) (N20Q.out) (.int .i64 (rd_T60 ys x).f2)) (N20Q.out) (.int .i64 (rd_T60 ys x).f3))
                replace BQ := Aside0.mk (blk_put (cs := #[.int .i64 (rd_T60 ys x).f0, .int .i64 (rd_T60 ys x).f1, .int .i64 (rd_T60 ys x).f2, .int .i64 0]) (cs' := #[.int .i64 (rd_T60 ys x).f0, .int .i64 (rd_T60 ys x).f1, .int .i64 (rd_T60 ys x).f2, .int .i64 (rd_T60 ys x).f3]) (blk_put (cs := #[.int .i64 (rd_T60 ys x).f0, .int .i64 (rd_T60 ys x).f1, .int .i64 0, .int .i64 0]) (cs' := #[.int .i64 (rd_T60 ys x).f0, .int .i64 (rd_T60 ys x).f1, .int .i64 (rd_T60 ys x).f2, .int .i64 0]) (blk_put (cs := #[.int .i64 (rd_T60 ys x).f0, .int .i64 0, .int .i64 0, .int .i64 0]) (cs' := #[.int .i64 (rd_T60 ys x).f0, .int .i64 (rd_T60 ys x).f1, .int .i64 0, .int .i64 0]) (blk_put (cs := #[.int .i64 0, .int .i64 0, .int .i64 0, .int .i64 0]) (cs' := #[.int .i64 (rd_T60 ys x).f0, .int .i64 0, .int .i64 0, .int .i64 0]) (BQ.out) 0 (.int .i64 (rd_T60 ys x).f0) rfl) 1 (.int .i64 (rd_T60 ys x).f1) rfl) 2 (.int .i64 (rd_T60 ys x).f2) rfl) 3 (.int .i64 (rd_T60 ys x).f3) rfl)
                replace H5 := Aside0.mk (Kd.R_far (p := ⟨gq, 3, none⟩) (Kd.R_far (p := ⟨gq, 2, none⟩) (Kd.R_far (p := ⟨gq, 1, none⟩) (Kd.R_far (p := ⟨gq, 0, none⟩) (H5.out) (hnq) (.int .i64 (rd_T60 ys x).f0)) (hnq) (.int .i64 (rd_T60 ys x).f1)) (hnq) (.int .i64 (rd_T60 ys x).f2)) (hnq) (.int .i64 (rd_T60 ys x).f3))
                generalize ((((w2_.setCell ⟨gq, 0, none⟩ (.int .i64 (rd_T60 ys x).f0)).setCell ⟨gq, 1, none⟩ (.int .i64 (rd_T60 ys x).f1)).setCell ⟨gq, 2, none⟩ (.int .i64 (rd_T60 ys x).f2)).setCell ⟨gq, 3, none⟩ (.int .i64 (rd_T60 ys x).f3)) = w3_ at HI BR BA BX BY B19 B20 BQ H5 ⊢
                clear hnq
                have hsend := specSendU w w3_ okDi ga now (rd_T60 ys x) A2 c2 l2 ni (.slice Ad1 dn1.length cd1) (.slice Ai dni.length ci) dni HKD.out HI.out.hU BA.out (HI.out.exg ga (HEI.out.1 ga XA.out)) (fun h => (HI.out.bU ga h).2 (HEI.out.1 ga XA.out)) ⟨_, _, _, rfl⟩ HR2.out HI.out.below (by have := HJ.out; omega) (by have := HJ.out; have := HG.out.t1; omega) (by have := HV.out; have := HJ.out; have := HN1.out; omega) (by have := HV.out; have := HJ.out; have := HYL.out; have := HG.out.t1; have := HN1.out; have := HXL.out; have := HLX.out; omega) HG.out.fa (by have := HV.out; have := HG.out.n2; omega)
                have q0 := b0 BQ; have q1 := b1 BQ; have q2 := b2 BQ; have q3 := b3 BQ
                go_wp2_with (first | ((with_reducible refine gate_callee (f := 81) rfl ?_); refine goesLA (some 119) rfl Try.func81 #[.pointer (some ⟨ga, 0, none⟩), .int .i64 now, .agg #[.int .i64 (rd_T60 ys x).f0, .int .i64 (rd_T60 ys x).f1, .int .i64 (rd_T60 ys x).f2, .int .i64 (rd_T60 ys x).f3]] ?_; refine hsend.mono ?_; rintro e w4_ ⟨vv, vn, rfl, hs, ha, hk, hb⟩; refine ⟨_, rfl, ?_⟩; have HI3 := SI.sentU HI.out hs hk (HEI.out.1 ga XA.out) hb; replace BR := Aside0.mk (blk_kept BR.out hk (fun h => h.elim (fun h => (HI.out.bU gr h).2 (HEI.out.1 gr XR.out)) (fun e => NRA.out e))); replace BX := Aside0.mk (blk_kept BX.out hk (fun h => h.elim (fun h => (HI.out.bU gx h).2 (HEI.out.1 gx XX.out)) (fun e => NAX.out e.symm))); replace BY := Aside0.mk (blk_kept BY.out hk (fun h => h.elim (fun h => (HI.out.bU gy h).2 (HEI.out.1 gy XY.out)) (fun e => NAY.out e.symm))); replace B19 := Aside0.mk (blk_kept B19.out hk (fun h => h.elim (fun h => (HI.out.bU g19 h).2 (HEI.out.1 g19 X19.out)) (fun e => (by have := LA0.out; have := NG.out; omega : g19 ≠ ga) e))); replace B20 := Aside0.mk (blk_kept B20.out hk (fun h => h.elim (fun h => (HI.out.bU g20 h).2 (HEI.out.1 g20 X20.out)) (fun e => (by have := LA2.out; have := NG3.out; omega : g20 ≠ ga) e))); replace H5 := Aside0.mk (Kd.R_kept H5.out hk (fun k hk h => h.elim (fun h => (HI.out.bU k h).2 (HEI.out.1 k (P6N3.out k hk.1 hk.2))) (fun e => (fun hh => Nat.lt_irrefl _ (Nat.lt_of_lt_of_le LA2.out hh)) (e ▸ hk.1)))); replace BA := Aside0.mk ha; have HE4 : Aside0 ((∀ k, ex3 k → exi k ∨ (Ni ≤ k ∧ k < w3_.heap.size)) ∧ N3 ≤ w4_.heap.size) := ⟨fun k h => .inl (HEI.out.1 k h), Nat.le_trans HEI.out.2 (Nat.le_trans HI.out.hN hk.1)⟩; clear HI HEI; have HI := Aside0.mk HI3; clear HI3 hs hk hb ha hsend q0 q1 q2 q3))
                go_roundg k2
                case measure => omega
                case rel =>
                 have hv := HV.out
                 have hlx := HLX.out
                 exact ⟨x + 1, ni + 1, _, _, _, _, _, by first | rfl | rw [wx], ⟨by omega, by omega, by omega, HDL.out⟩, HA4, HE4, HI, H5, BR, BA, BX, BY, B19, B20⟩
               ·have d1 : decide (x < (ys.length : Int)) = false := decide_eq_false hx
                have HDN : Aside0 (dni = sendsD l2 now ys n1 up) := ⟨by
                 have h := HA3.out
                 rw [List.drop_of_length_le (by have := HV.out; omega)] at h
                 exact h⟩
                have HNI : Aside0 (ni = n1 + (ys.length : Int)) := ⟨by have := HV.out; omega⟩
                clear hx
                obtain ⟨n2, hrn⟩ : ∃ z, z = ni := ⟨_, rfl⟩
                subst hrn
                obtain ⟨up1, hrn⟩ : ∃ z, z = dni := ⟨_, rfl⟩
                subst hrn
                obtain ⟨Au1, hrn⟩ : ∃ z, z = Ai := ⟨_, rfl⟩
                subst hrn
                obtain ⟨cu1, hrn⟩ : ∃ z, z = ci := ⟨_, rfl⟩
                subst hrn
                obtain ⟨okU1, hrn⟩ : ∃ z, z = okDi := ⟨_, rfl⟩
                subst hrn
                have HN2 : Aside0 ((sendL l2 now a3 ys n1 rB).2 = n2) := ⟨by rw [sendL_n, HNI.out]⟩
                have HAU : Aside0 (Air now a3 up1 (sendL l2 now a3 ys n1 rB).1) := ⟨by rw [HDN.out]; exact air_L l2 HG.out.fa now now a3 (by have := HJ.out; omega) (by have := HJ.out; omega) ys n1 up rB (by have := HJ.out; have := HN1.out; omega) (by have := HJ.out; omega) HAIR.out.2⟩
                have HDU : Aside0 (up1.length ≤ 10 * min n2.toNat l2.length) := ⟨HV.out.2.2.2⟩
                have o0 := b0 BX; have o1 := b1 BX; have o2 := b2 BX; have o3 := b3 BX; have o4 := b4 BX; have o5 := b0 BY; have o6 := b1 BY; have o7 := b2 BY; have o8 := b6 B19; have o9 := b4 B20; have o10 := b5 B20
                have hwl : wrap64 ((xs.length : Int) + (ys.length : Int)) = (xs.length : Int) + (ys.length : Int) := Go.Proofs.Ytndffnacbfdnoaa.Plain.w64 (by omega) (by have := HXL.out; have := HYL.out; omega)
                have hwn : wrap64 (now + 1) = now + 1 := Go.Proofs.Ytndffnacbfdnoaa.Plain.w64 (by have := HJ.out; omega) (by have := HJ.out; have := HG.out.t1; omega)
                go_wp2_with (first | ((with_reducible refine gate_builtin (b := .append) (xs := #[.tmp 121, .tmp 134]) rfl ?_); at_builtin; refine Kd.R_append k86 (w0 := w) w.heap.size rfl (.tmp 121) (.tmp 134) 68 86 (.agg #[.int .i64 0, .int .i64 0, .int .i64 0, .int .i64 0, .int .i64 0, .int .i64 0, .int .i64 0, .int .i64 0, .int .i64 0, .int .i64 0]) 80 rfl Try.underlying68 (by kernel_rfl) rfl (by decide) (by decide) u10 out (⟨⟨x2, x3, x4, x5, x6⟩, ⟨y2, y3, y4⟩, (xs.length : Int) + (ys.length : Int), y6⟩ : S86) [.int .i64 x2, .int .i64 x3, .int .i64 x4, .int .i64 x5, .int .i64 x6, .int .i64 y2, .int .i64 y3, .int .i64 y4, .int .i64 ((xs.length : Int) + (ys.length : Int)), .int .i64 y6] (fun k => okO k ∨ wr.heap.size ≤ k) (fun _ => False) rfl (by first | (go_simp; done) | (go_simp; rfl)) (k86_mkM _ _ _ (⟨⟨x2, x3, x4, x5, x6⟩, ⟨y2, y3, y4⟩, (xs.length : Int) + (ys.length : Int), y6⟩ : S86)) (fun _ h => h.elim) (fun k hk => .inr hk) (Kd.R_mono HI.out.hO (fun k hk => .inl hk)) HI.out.below HI.out.size (by have := HJ.out; have := HG.out.t1; omega) ?_; intro v2 wn ho hb hg hat; have HI4 := SI.outs HI.out ho hg hb; replace BR := Aside0.mk (blk_grown BR.out hg (fun e => (HI.out.bO _ (HI.out.hO.1 _ e.symm)).2 (HEI.out.1 _ XR.out))); replace BA := Aside0.mk (blk_grown BA.out hg (fun e => (HI.out.bO _ (HI.out.hO.1 _ e.symm)).2 (HEI.out.1 _ XA.out))); replace BX := Aside0.mk (blk_grown BX.out hg (fun e => (HI.out.bO _ (HI.out.hO.1 _ e.symm)).2 (HEI.out.1 _ XX.out))); replace BY := Aside0.mk (blk_grown BY.out hg (fun e => (HI.out.bO _ (HI.out.hO.1 _ e.symm)).2 (HEI.out.1 _ XY.out))); clear HI; have HI := Aside0.mk HI4; clear HI4 ho hb hg hat))
                go_roundg k1
                case measure => omega
                case rel =>
                 have hj := HJ.out
                 have hx := HXL.out
                 have hy := HYL.out
                 have hn1 := HN1.out
                 have hni := HNI.out
                 have hd1 := HDL1.out
                 have hdu := HDU.out
                 refine ⟨now + 1, ⟨x2, x3, x4, x5, x6⟩, ⟨y2, y3, y4⟩, (sendL l2 now a3 ys n1 rB).1, rT1, n2, (vals now sets).2, out ++ [(⟨⟨x2, x3, x4, x5, x6⟩, ⟨y2, y3, y4⟩, (xs.length : Int) + (ys.length : Int), y6⟩ : S86)], dn1, up1, _, _, _, _, _, _, by first | rfl | rw [hwn], ⟨?_⟩, ⟨HSA.out.next⟩, ⟨by omega, by omega, by omega, by omega, by omega, hdu, by simp; omega, by rw [sendL_len]; omega, HTL.out⟩, ⟨⟨Air.next HAD.out, Air.next HAU.out⟩⟩, ⟨SI.less HI.out (fun k hk => .inl (HEI.out.1 k (HEX.out k hk)))⟩, BR, BA, BX, BY⟩
                 rw [← HA.out, run_ok HXX.out HYY.out, ← HRT.out, HNS.out, HN2.out]
 ·rw [if_neg hz] at h
  exact absurd h (by simp)
end Go.Proofs.Ytndffnacbfdnoaa.PAll
