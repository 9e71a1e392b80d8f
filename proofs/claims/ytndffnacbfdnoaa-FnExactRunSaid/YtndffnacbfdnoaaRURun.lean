-- Lines of Run that this claim uses.
import Derived.Test.YtndffnacbfdnoaaRURunI
namespace Go.Proofs.Ytndffnacbfdnoaa.PAll
open Go.RowKit Go.Proofs.YtndffnacbfdnoaaW.PrintWords Go.Proofs.YtndffnacbfdnoaaW.PrintLast Go.Proofs.YtndffnacbfdnoaaW.PrintMore
attribute [local go_sem] max2_int min2_int max_two min_two max_three min_three max_four min_four
set_option linter.unusedVariables false
set_option linter.unusedSimpArgs false
set_option maxHeartbeats 8000000 in
set_option maxRecDepth 100000 in
theorem impl_Run.calls (a0_0 : Int) (a0_1 : Int) (a0_2 : Int) (A1 : Option Addr) (c1 : Nat) (l1 : List (S84)) (A2 : Option Addr) (c2 : Nat) (l2 : List (List Int)) (a3 : Int) (r : List (S86)) (w : World) (hr1 : Kd.C k84 w A1 l1.length l1) (hc1 : l1.length ≤ c1) (hr2 : Kd.C (Kd.slice 3 (Kd.int .i64)) w A2 l2.length l2) (hc2 : l2.length ≤ c2) (h : impl_Run.f a0_0 a0_1 a0_2 l1 l2 a3 = some r) :
  Calls Try.prog 38 #[.agg #[.int .i64 a0_0, .int .i64 a0_1, .int .i64 a0_2], .slice A1 l1.length c1, .slice A2 l2.length c2, .int .i64 a3] w fun e w' => ∃ v0_ : Value, e = .returned v0_ ∧ Kd.R k86 86 w' w.heap.size (fun _ => True) v0_ r ∧ Below w.heap.size w w' := by
 have hu34 := Try.underlying34
 have HR1 := Aside0.mk hr1
 have HC1 := Aside0.mk hc1
 have HR2 := Aside0.mk hr2
 have HC2 := Aside0.mk hc2
 clear hr1 hc1 hr2 hc2
 have HB := Aside0.mk (Below.refl w.heap.size w)
 unfold impl_Run.f at h
 by_cases hg : goodB a0_0 a0_1 a0_2 l1 l2 a3 = true
 ·rw [if_pos hg] at h
  have HL := Aside0.mk (Option.some.inj h)
  have HG := Aside0.mk (good_of hg)
  clear h hg
  obtain ⟨kr, hkr⟩ : ∃ k, 110000 < k := ⟨110001, by omega⟩
  have A5 := Aside0.mk (runOk_is HG.out kr hkr)
  clear hkr
  have hnw : wrap64 (a3 + 1) = a3 + 1 := Go.Proofs.Ytndffnacbfdnoaa.Plain.w64 (by have := HG.out.t0; omega) (by have := HG.out.t1; omega)
  have hx0 : (0 ≤ a3 + 1) = True := eq_true (by have := HG.out.t0; omega)
  obtain ⟨len, hlen⟩ : ∃ n : Nat, (a3 + 1).toNat = n := ⟨_, rfl⟩
  have HLEN := Aside0.mk hlen
  clear hlen
  go_enter Try.func38, Try.ntmps38
  go_wp2_with (first | ((with_reducible refine gate_dst (N := 4) rfl ?_); refine boxA #[.int .i64 a0_0, .int .i64 a0_1, .int .i64 a0_2] 34 ?_; intro gr hg w1 hbox hb; have BR := Aside0.mk hbox; have GR := nge HB hg; replace HB := bst HB hb; clear hg hbox hb) | ((with_reducible refine gate_dst (N := 6) rfl ?_); refine boxA #[.slice A2 l2.length c2] 65 ?_; intro gf hg w2 hbox hb; have NRF := nlt BR hg; have GF := nge HB hg; have BF := Aside0.mk hbox; replace BR := bkb BR hb; replace HB := bst HB hb; clear hg hbox hb) | ((with_reducible refine gate_dst (N := 7) rfl ?_); refine boxA #[.int .i64 a3] 3 ?_; intro gt hg w3 hbox hb; have NRT := nlt BR hg; have NFT := nlt BF hg; have GT := nge HB hg; have BT := Aside0.mk hbox; replace BR := bkb BR hb; replace BF := bkb BF hb; replace HB := bst HB hb; have r0 := b0 BR; have r1 := b1 BR; have r2 := b2 BR; have f0 := b0 BF; have t0 := b0 BT; clear hg hbox hb) | ((with_reducible refine gate_callee (f := 84) rfl ?_); refine goesLA (some 25) rfl Try.func84 #[.agg #[.int .i64 a0_0, .int .i64 a0_1, .int .i64 a0_2], .slice A1 l1.length c1, .slice A2 l2.length c2, .int .i64 a3] ?_; (with_reducible refine (impl_runOk.calls kr a0_0 a0_1 a0_2 A1 c1 l1 A2 c2 l2 a3 true _ (Kd.C_below HR1.out HB.out) HC1.out (Kd.C_below HR2.out HB.out) HC2.out A5.out).mono ?_); rintro e w4 ⟨rfl, hb⟩; refine ⟨_, rfl, ?_⟩; replace BR := bkb BR hb; replace BF := bkb BF hb; replace BT := bkb BT hb; replace HB := bst HB hb; clear hb; clear r0 r1 r2 f0 t0; have r0 := b0 BR; have r1 := b1 BR; have r2 := b2 BR; have f0 := b0 BF; have t0 := b0 BT) | ((with_reducible refine gate_dst (N := 29) rfl ?_); refine Kd.S_make kc133 (w0 := w) w.heap.size 131 rfl (N := 29) rfl 130 (.tmp 28) (.tmp 28) rfl (wrap64 (a3 + 1)) rfl rfl Try.underlying130 (.slice none 0 0) 24 (by kernel_rfl) rfl (by decide) (by decide) ([] : List S133) (ok := fun k => w4.heap.size ≤ k) (okp := fun _ => False) ⟨_, rfl, Kd.R_nil _ _ _ _ _⟩ (fun _ h => h.elim) (Nat.le_refl _) (by have := HG.out.t0; rw [hnw]; omega) (by have := HG.out.t1; rw [hnw]; omega) HB.out HB.out.size ?_; intro v w5 hs1 hb1 hg1 hat1; rw [hnw, HLEN.out] at hs1; obtain ⟨gB, cB, hv, hz1, hz2, hz3⟩ := Kd.S_form hs1 (by have := HG.out.t0; have := HLEN.out; simp; omega); rw [List.length_replicate] at hv; subst hv; have LR := Aside0.mk (blk_lt BR.out); have LF := Aside0.mk (blk_lt BF.out); have LT := Aside0.mk (blk_lt BT.out); replace BR := Aside0.mk (blk_grown BR.out hg1 (by simp)); replace BF := Aside0.mk (blk_grown BF.out hg1 (by simp)); replace BT := Aside0.mk (blk_grown BT.out hg1 (by simp)); have L45 := Aside0.mk hg1.size; have SB : Aside0 (Kd.S kc133 131 w5 w.heap.size (fun k => w4.heap.size ≤ k ∧ k < w5.heap.size) (.slice (some ⟨gB, 0, none⟩) len cB) (List.replicate len [])) := ⟨Kd.S_mono (Kd.S_bound hs1) (fun k hk => ⟨hk.1, hk.2.2.1⟩)⟩; replace HB := Aside0.mk hb1; clear hs1 hb1 hg1 hat1 hz1 hz2 hz3; clear r0 r1 r2 f0 t0; have r0 := b0 BR; have r1 := b1 BR; have r2 := b2 BR; have f0 := b0 BF; have t0 := b0 BT) | ((with_reducible refine gate_dst (N := 32) rfl ?_); refine Kd.S_make kc133 (w0 := w) w.heap.size 131 rfl (N := 32) rfl 130 (.tmp 31) (.tmp 31) rfl (wrap64 (a3 + 1)) rfl rfl Try.underlying130 (.slice none 0 0) 24 (by kernel_rfl) rfl (by decide) (by decide) ([] : List S133) (ok := fun k => w5.heap.size ≤ k) (okp := fun _ => False) ⟨_, rfl, Kd.R_nil _ _ _ _ _⟩ (fun _ h => h.elim) (Nat.le_refl _) (by have := HG.out.t0; rw [hnw]; omega) (by have := HG.out.t1; rw [hnw]; omega) HB.out HB.out.size ?_; intro v w6 hs1 hb1 hg1 hat1; rw [hnw, HLEN.out] at hs1; obtain ⟨gT, cT, hv, hz1, hz2, hz3⟩ := Kd.S_form hs1 (by have := HG.out.t0; have := HLEN.out; simp; omega); rw [List.length_replicate] at hv; subst hv; replace BR := Aside0.mk (blk_grown BR.out hg1 (by simp)); replace BF := Aside0.mk (blk_grown BF.out hg1 (by simp)); replace BT := Aside0.mk (blk_grown BT.out hg1 (by simp)); replace SB := Aside0.mk (Kd.S_grown SB.out hg1 (by simp)); have L56 := Aside0.mk hg1.size; have ST : Aside0 (Kd.S kc133 131 w6 w.heap.size (fun k => w5.heap.size ≤ k ∧ k < w6.heap.size) (.slice (some ⟨gT, 0, none⟩) len cT) (List.replicate len [])) := ⟨Kd.S_mono (Kd.S_bound hs1) (fun k hk => ⟨hk.1, hk.2.2.1⟩)⟩; replace HB := Aside0.mk hb1; clear hs1 hb1 hg1 hat1 hz1 hz2 hz3; clear r0 r1 r2 f0 t0; have r0 := b0 BR; have r1 := b1 BR; have r2 := b2 BR; have f0 := b0 BF; have t0 := b0 BT) | ((with_reducible refine gate_dst (N := 11) rfl ?_); refine boxA #[.int .i64 0] 3 ?_; intro gn hg w7 hbox hb; have NRN := nlt BR hg; have NFN := nlt BF hg; have NTN := nlt BT hg; have GN := nge HB hg; have EN := Aside0.mk hg; have L67 := Aside0.mk hb.size; have BN := Aside0.mk hbox; replace BR := bkb BR hb; replace BF := bkb BF hb; replace BT := bkb BT hb; replace SB := Aside0.mk (Kd.S_below SB.out hb); replace ST := Aside0.mk (Kd.S_below ST.out hb); replace HB := bst HB hb; clear r0 r1 r2 f0 t0; have r0 := b0 BR; have r1 := b1 BR; have r2 := b2 BR; have f0 := b0 BF; have t0 := b0 BT; have n0 := b0 BN; have z0 := blk_frozen BN.out 0; clear hg hbox hb) | ((with_reducible refine gate_dst (N := 15) rfl ?_); refine boxA #[.int .i64 0, .int .i64 0, .int .i64 0, .int .i64 0, .int .i64 0] 29 ?_; intro gx hg w8 hbox hb; have EX := Aside0.mk (hg.trans (show (w7.setCell ⟨gn, 0, none⟩ (.int .i64 0)).heap.size = w7.heap.size by simp [World.setCell])); have NNX : Aside0 (gn ≠ gx) := ⟨by have h1 := blk_lt BN.out; have h2 := EX.out; omega⟩; have NRX : Aside0 (gr ≠ gx) := ⟨by have h1 := blk_lt BR.out; have h2 := EX.out; omega⟩; have NFX : Aside0 (gf ≠ gx) := ⟨by have h1 := blk_lt BF.out; have h2 := EX.out; omega⟩; have NTX : Aside0 (gt ≠ gx) := ⟨by have h1 := blk_lt BT.out; have h2 := EX.out; omega⟩; have GX : Aside0 (w.heap.size ≤ gx) := ⟨by have h1 := EX.out; have h2 := HB.out.size; omega⟩; have BX := Aside0.mk hbox; replace BR := Aside0.mk (blk_below (blk_far BR.out NRN.out _) hb); replace BF := Aside0.mk (blk_below (blk_far BF.out NFN.out _) hb); replace BT := Aside0.mk (blk_below (blk_far BT.out NTN.out _) hb); replace BN := Aside0.mk (blk_below (blk_put (cs := #[.int .i64 0]) BN.out 0 _ rfl) hb); replace SB := Aside0.mk (Kd.S_below (Kd.S_far SB.out (fun k hk e => by have e : k = gn := e; have := EN.out; have := L56.out; omega) _) hb); replace ST := Aside0.mk (Kd.S_below (Kd.S_far ST.out (fun k hk e => by have e : k = gn := e; have := EN.out; have := L56.out; omega) _) hb); replace HB := Aside0.mk (below_step (below_set HB.out GN.out) hb); clear n0 z0 r0 r1 r2 f0 t0; have r0 := b0 BR; have r1 := b1 BR; have r2 := b2 BR; have f0 := b0 BF; have t0 := b0 BT; have n0 := b0 BN; clear hg hbox hb) | ((with_reducible refine gate_dst (N := 16) rfl ?_); refine boxA #[.int .i64 0, .int .i64 0, .int .i64 0] 48 ?_; intro gy hg w9 hbox hb; have EY := Aside0.mk hg; have LX := Aside0.mk (blk_lt BX.out); have NRY := nlt BR hg; have NFY := nlt BF hg; have NTY := nlt BT hg; have NNY := nlt BN hg; have NXY := nlt BX hg; have GY := nge HB hg; have BY := Aside0.mk hbox; replace BR := bkb BR hb; replace BF := bkb BF hb; replace BT := bkb BT hb; replace BN := bkb BN hb; replace BX := bkb BX hb; replace SB := Aside0.mk (Kd.S_below SB.out hb); replace ST := Aside0.mk (Kd.S_below ST.out hb); replace HB := bst HB hb; clear n0 r0 r1 r2 f0 t0; have r0 := b0 BR; have r1 := b1 BR; have r2 := b2 BR; have f0 := b0 BF; have t0 := b0 BT; have n0 := b0 BN; clear hg hbox hb))
  go_loopg [1, 14, 17] a3.toNat (fun kq v1 v14 v17 w' => ∃ (now : Int) (b : S29) (t : S48) (rB rT : List (List S133)) (n : Int) (sets : List S84) (out : List S86) (As : Option Addr) (cs N : Nat) (okB okT okO : Nat → Prop), v1 = .slice As sets.length cs ∧ v17 = .int .i64 now ∧
   Aside0 (runLoop a0_0 a0_1 a0_2 l2 a3 kq now b t rB rT n sets out = r) ∧ Aside0 (Kd.C k84 w As sets.length sets ∧ sets.length ≤ cs ∧ sets.length ≤ 200) ∧
   Aside0 (1 ≤ now ∧ now + kq = a3 + 1 ∧ 0 ≤ n ∧ n ≤ 1001 * (now - 1) ∧ (∀ q, q ∈ rB → q.length ≤ 10 * min n.toNat l2.length) ∧ (∀ q, q ∈ rT → q.length ≤ 10 * min n.toNat l2.length) ∧ out.length + 1 = now.toNat) ∧
   Aside0 (RI w w' N (fun k => k = gr ∨ k = gf ∨ k = gt ∨ k = gn ∨ k = gx ∨ k = gy) okB okT okO gB cB gT cT len rB rT v14 out) ∧
   Aside0 (w'.heap[gr]? = some (.cells #[.int .i64 a0_0, .int .i64 a0_1, .int .i64 a0_2] 34 (0, 0))) ∧ Aside0 (w'.heap[gf]? = some (.cells #[.slice A2 l2.length c2] 65 (0, 0))) ∧ Aside0 (w'.heap[gt]? = some (.cells #[.int .i64 a3] 3 (0, 0))) ∧ Aside0 (w'.heap[gn]? = some (.cells #[.int .i64 n] 3 (0, 0))) ∧
   Aside0 (w'.heap[gx]? = some (.cells #[.int .i64 b.f0, .int .i64 b.f1, .int .i64 b.f2, .int .i64 b.f3, .int .i64 b.f4] 29 (0, 0))) ∧ Aside0 (w'.heap[gy]? = some (.cells #[.int .i64 t.f0, .int .i64 t.f1, .int .i64 t.f2] 48 (0, 0))))
  case atStart =>
   have hlen := HLEN.out
   have ht0 := HG.out.t0
   have hl := SB.out
   have h1 := LR.out
   have h2 := LF.out
   have h3 := LT.out
   have h4 := L45.out
   have h5 := L56.out
   have h6 := EN.out
   have h7 := EX.out
   have h8 := EY.out
   have h9 := L67.out
   have h18 := LX.out
   have h10 := blk_lt BX.out
   have h11 := blk_lt BY.out
   have h18 := LX.out
   have h12 := GR.out
   have h13 := GF.out
   have h14 := GT.out
   have h15 := GN.out
   have h16 := GX.out
   have h17 := GY.out
   refine ⟨1, z29, z48, List.replicate len [], List.replicate len [], 0, l1, [], A1, c1, w6.heap.size, _, _, fun _ => False, rfl, rfl, ⟨by rw [← hlen]; exact HL.out⟩, ⟨HR1.out, HC1.out, HG.out.n1⟩, ⟨by omega, by omega, by omega, by omega, fun q hq => by rw [List.eq_of_mem_replicate hq]; simp, fun q hq => by rw [List.eq_of_mem_replicate hq]; simp, rfl⟩, ⟨⟨SB.out, ST.out, Kd.R_nil _ _ _ _ _, fun k hk h => by omega, fun _ _ h => h, fun _ _ h => h, fun k hk => ⟨by omega, fun h => by omega⟩, fun k hk => ⟨by omega, fun h => by omega⟩, fun _ h => h.elim, ?_, ?_, fun k hk => by omega, fun k hk => ?_, by simp, by simp, HB.out⟩⟩, BR, BF, BT, BN, BX, BY⟩
   ·have := blk_lt BN.out; omega
   ·omega
   ·have := blk_lt BN.out; have := blk_lt BR.out; have := blk_lt BF.out; have := blk_lt BT.out; omega
  case round =>
   clear EN L67 EX EY LR LF LT L45 L56 LX SB ST BR BF BT BN BX BY n0 r0 r1 r2 f0 t0 HB
   obtain ⟨now, b, t, rB, rT, n, sets, out, As, cs, N0, okB, okT, okO, rfl, rfl, HA, HS, HJ, HI0, BR, BF, BT, BN, BX, BY⟩ := hrel
   have HI := Aside0.mk HI0.out.wide
   obtain ⟨N, hN⟩ : ∃ x, x = wr.heap.size := ⟨_, rfl⟩
   have LR := Aside0.mk (hN ▸ blk_lt BR.out)
   have LF := Aside0.mk (hN ▸ blk_lt BF.out)
   have LT := Aside0.mk (hN ▸ blk_lt BT.out)
   have LN := Aside0.mk (hN ▸ blk_lt BN.out)
   have LX := Aside0.mk (hN ▸ blk_lt BX.out)
   have LY := Aside0.mk (hN ▸ blk_lt BY.out)
   have t0 := b0 BT
   cases gk with
   | zero =>
    have d0 : decide (now ≤ a3) = false := decide_eq_false (by have := HJ.out; omega)
    have hr : out = r := HA.out
    go_wp2
    go_ret
    exact ⟨_, rfl, by rw [← hr]; exact Kd.R_mono HI.out.hO (fun _ _ => trivial), HI.out.below⟩
   | succ k1 =>
    have d0 : decide (now ≤ a3) = true := decide_eq_true (by have := HJ.out; omega)
    rw [← hN] at HI
    have HE := Aside0.mk (Nat.le_of_eq hN)
    obtain ⟨ex, hex⟩ : ∃ e : Nat → Prop, e = (fun k => (k = gr ∨ k = gf ∨ k = gt ∨ k = gn ∨ k = gx ∨ k = gy) ∨ N0 ≤ k ∧ k < N) := ⟨_, rfl⟩
    have XR : Aside0 (ex gr) := ⟨by rw [hex]; simp⟩
    have XF : Aside0 (ex gf) := ⟨by rw [hex]; simp⟩
    have XT : Aside0 (ex gt) := ⟨by rw [hex]; simp⟩
    have XN : Aside0 (ex gn) := ⟨by rw [hex]; simp⟩
    have XX : Aside0 (ex gx) := ⟨by rw [hex]; simp⟩
    have XY : Aside0 (ex gy) := ⟨by rw [hex]; simp⟩
    have HEX : Aside0 (∀ k, (k = gr ∨ k = gf ∨ k = gt ∨ k = gn ∨ k = gx ∨ k = gy) → ex k) := ⟨fun k hk => by rw [hex]; exact .inl hk⟩
    rw [← hex] at HI
    clear hex hN HI0
    go_wp2
    go_loopg [1, 18] sets.length (fun kq v1 v18 w' => ∃ (s2 : List S84) (vs : List Int) (A2s : Option Addr) (c2s : Nat), v1 = .slice A2s s2.length c2s ∧
     Aside0 (vs ++ (vals now s2).1 = (vals now sets).1 ∧ (vals now s2).2 = (vals now sets).2 ∧ kq = s2.length) ∧ Aside0 (Kd.C k84 w A2s s2.length s2 ∧ s2.length ≤ c2s ∧ s2.length + vs.length ≤ 200) ∧
     Aside0 (Kd.R (Kd.int .i64) 2 w' w.heap.size (fun k => N ≤ k) v18 vs) ∧ Aside0 (RI w w' N ex okB okT okO gB cB gT cT len rB rT u14 out) ∧
     Aside0 (w'.heap[gr]? = some (.cells #[.int .i64 a0_0, .int .i64 a0_1, .int .i64 a0_2] 34 (0, 0))) ∧ Aside0 (w'.heap[gf]? = some (.cells #[.slice A2 l2.length c2] 65 (0, 0))) ∧ Aside0 (w'.heap[gt]? = some (.cells #[.int .i64 a3] 3 (0, 0))) ∧ Aside0 (w'.heap[gn]? = some (.cells #[.int .i64 n] 3 (0, 0))) ∧
     Aside0 (w'.heap[gx]? = some (.cells #[.int .i64 b.f0, .int .i64 b.f1, .int .i64 b.f2, .int .i64 b.f3, .int .i64 b.f4] 29 (0, 0))) ∧ Aside0 (w'.heap[gy]? = some (.cells #[.int .i64 t.f0, .int .i64 t.f1, .int .i64 t.f2] 48 (0, 0))))
    case atStart => exact ⟨sets, [], As, cs, rfl, ⟨rfl, rfl, rfl⟩, ⟨HS.out.1, HS.out.2.1, by have := HS.out.2.2; simpa using this⟩, ⟨Kd.R_nil _ _ _ _ _⟩, HI, BR, BF, BT, BN, BX, BY⟩
    case round =>
     clear t0 BR BF BT BN BX BY HI HE
     obtain ⟨s2, vs, A2s, c2s, rfl, HV, HC, HO, HI, BR, BF, BT, BN, BX, BY⟩ := hrel
     by_cases hp : 0 < s2.length ∧ (rd_T84 s2 0).f0 = now
     ·obtain ⟨hp0, hp1⟩ := hp
      have d1 : decide ((s2.length : Int) > 0) = true := decide_eq_true (by omega)
      have d2 : ((rd_T84 s2 0).f0 == now) = true := by simpa using hp1
      have d3 : (0 < s2.length) = True := eq_true hp0
      obtain ⟨ad, ead, hx0', hx1'⟩ := at_T84 HC.out.1 0 (by decide) (by omega)
      cases ead
      have hx0 : wr.cell? ad = some (.int .i64 (rd_T84 s2 0).f0) := by
       have h2 := (HI.out.below.cell (World.block_lt_of_cell? w _ hx0')).trans hx0'
       rw [show (Int.toNat 0) * 2 = 0 from rfl, add0_] at h2
       exact h2
      have hx1 : wr.cell? ⟨ad.block, ad.off + 1, none⟩ = some (.int .i64 (rd_T84 s2 0).f1) := by
       have h2 := (HI.out.below.cell (World.block_lt_of_cell? w _ hx1')).trans hx1'
       rw [show (Int.toNat 0) * 2 = 0 from rfl, add0_] at h2
       exact h2
      clear hx0' hx1'
      obtain ⟨k2, rfl⟩ : ∃ k2, gk = k2 + 1 := ⟨gk - 1, by have := HV.out.2.2; omega⟩
      have HP := Aside0.mk hp1
      have HP0 := Aside0.mk hp0
      clear hp0 hp1
      have HE2 := Aside0.mk HI.out.hN
      have d5 : ((1 : Int) ≤ (s2.length : Int)) = True := eq_true (by have := HP0.out; omega)
      by_cases hcap : c2s = 1
      all_goals go_wp2_with (first | ((with_reducible refine gate_builtin (b := .append) (xs := #[.tmp 50, .tmp 55]) rfl ?_); at_builtin; refine Kd.R_append (Kd.int .i64) (w0 := w) w.heap.size rfl (.tmp 50) (.tmp 55) 26 2 (.int .i64 0) 8 rfl Try.underlying26 info2 rfl (by decide) (by decide) u18 vs (rd_T84 s2 0).f1 [.int .i64 (rd_T84 s2 0).f1] (fun k => N ≤ k) (fun _ => False) rfl (by first | (go_simp; done) | (go_simp; rfl)) rfl (fun _ h => h.elim) (fun k hk => Nat.le_trans HE2.out hk) HO.out HI.out.below HI.out.size (by have := HC.out.2.2; omega) ?_; intro v2 w2 ho hb hg hat; have nr := HO.out.1; replace HI := Aside0.mk (RI.grown HI.out hg nr hb); replace BR := Aside0.mk (blk_grown BR.out hg (fun e => absurd (nr _ e.symm) (Nat.not_le_of_lt LR.out))); replace BF := Aside0.mk (blk_grown BF.out hg (fun e => absurd (nr _ e.symm) (Nat.not_le_of_lt LF.out))); replace BT := Aside0.mk (blk_grown BT.out hg (fun e => absurd (nr _ e.symm) (Nat.not_le_of_lt LT.out))); replace BN := Aside0.mk (blk_grown BN.out hg (fun e => absurd (nr _ e.symm) (Nat.not_le_of_lt LN.out))); replace BX := Aside0.mk (blk_grown BX.out hg (fun e => absurd (nr _ e.symm) (Nat.not_le_of_lt LX.out))); replace BY := Aside0.mk (blk_grown BY.out hg (fun e => absurd (nr _ e.symm) (Nat.not_le_of_lt LY.out))); replace HO := Aside0.mk ho; clear ho hb hg hat nr hx0 hx1 HE2))
      ·go_roundg k2
       case measure => omega
       case rel =>
        have hv := HV.out
        rw [vals_cons HP0.out HP.out] at hv
        have hc := HC.out
        have hd := Kd.C_drop (c := c2s) hc.1 HP0.out hc.2.1
        rw [if_pos hcap] at hd
        exact ⟨s2.drop 1, vs ++ [(rd_T84 s2 0).f1], some ad, c2s - 1, by rw [List.length_drop, hcap], ⟨by simpa using hv.1, hv.2.1, by rw [List.length_drop]; omega⟩, ⟨hd, by rw [List.length_drop]; omega, by rw [List.length_drop, List.length_append]; simp; omega⟩, HO, HI, BR, BF, BT, BN, BX, BY⟩
      ·go_roundg k2
       case measure => omega
       case rel =>
        have hv := HV.out
        rw [vals_cons HP0.out HP.out] at hv
        have hc := HC.out
        have hd := Kd.C_drop (c := c2s) hc.1 HP0.out hc.2.1
        rw [if_neg hcap] at hd
        exact ⟨s2.drop 1, vs ++ [(rd_T84 s2 0).f1], some ⟨ad.block, ad.off + 2, none⟩, c2s - 1, by rw [List.length_drop], ⟨by simpa using hv.1, hv.2.1, by rw [List.length_drop]; omega⟩, ⟨by rw [← add2_]; exact hd, by rw [List.length_drop]; omega, by rw [List.length_drop, List.length_append]; simp; omega⟩, HO, HI, BR, BF, BT, BN, BX, BY⟩
     ·have HVS : Aside0 (vs = (vals now sets).1 ∧ s2 = (vals now sets).2) := by
       have h := HV.out
       have h2 := vals_end hp
       rw [h2] at h
       exact ⟨by simpa using h.1, h.2.1⟩
      by_cases hp0 : (s2.length : Int) > 0
      case' pos =>
       have d1 : decide ((s2.length : Int) > 0) = true := decide_eq_true hp0
       have d2 : ((rd_T84 s2 0).f0 == now) = false := by simpa using fun h => hp ⟨by omega, h⟩
       have d3 : (0 < s2.length) = True := eq_true (by omega)
       obtain ⟨ad, ead, hx0', hx1'⟩ := at_T84 HC.out.1 0 (by decide) (by omega)
       cases ead
       have hx0 : wr.cell? ad = some (.int .i64 (rd_T84 s2 0).f0) := by
        have h2 := (HI.out.below.cell (World.block_lt_of_cell? w _ hx0')).trans hx0'
        rw [show (Int.toNat 0) * 2 = 0 from rfl, add0_] at h2
        exact h2
       clear hx0' hx1' hp hp0
       go_wp2
       clear hx0 d1 d2 d3
      case' neg =>
       have d1 : decide ((s2.length : Int) > 0) = false := decide_eq_false hp0
       have d3 : (0 < s2.length) = False := eq_false (by omega)
       clear hp hp0
       go_wp2
       clear d1 d3
      all_goals
       obtain ⟨ad0, A0, c0, e0, hh0, hle0, hlc0⟩ := at_L133 (Kd.R_reads' (Kd.S_R HI.out.hB)).2.2 now (by have := HJ.out; omega) (by have := HJ.out; have := HI.out.lB; have := HLEN.out; omega)
       cases e0
       rw [add_at, Nat.zero_add] at hh0
       obtain ⟨Lr, hLr⟩ : ∃ x, x = rB.getD now.toNat [] := ⟨_, rfl⟩
       rw [← hLr] at hh0 hle0 hlc0
       have HLr := Aside0.mk hLr
       have HH := Aside0.mk hh0
       have HLC := Aside0.mk hlc0
       have HLE := Aside0.mk hle0
       clear hLr hh0 hlc0 hle0
       have HLB : Aside0 (Lr.length ≤ 50000) := ⟨by
        have h1 := HJ.out
        rw [HLr.out, List.getD_eq_getElem?_getD]
        cases hi : rB[now.toNat]? with
        | none => simp
        | some q =>
         have h2 := h1.2.2.2.2.1 q (List.mem_of_getElem? hi)
         have h3 := HG.out.n2
         simp only [Option.getD_some]
         omega⟩
       obtain ⟨Av, cv, hvv⟩ := Kd.R_slice HO.out
       subst hvv
       obtain ⟨kp, hkp⟩ : ∃ k, 60000 < k := ⟨60001, by omega⟩
       have HKP := Aside0.mk (rpk_is Lr (by have := HLB.out; omega) kp (by have := HLB.out; omega))
       obtain ⟨X, hX⟩ : ∃ x, x = boxF a0_0 a0_1 a0_2 now b vs (pks Lr) := ⟨_, rfl⟩
       have HKB := Aside0.mk (box_is a0_0 a0_1 a0_2 now b vs (pks Lr) (by have := HC.out.2.2; omega) (by have := HLB.out; simp [pks]; omega) kp (by have := HLB.out; have := HC.out.2.2; simp [pks]; omega))
       rw [← hX] at HKB
       have HX := Aside0.mk hX
       clear hX hkp
       obtain ⟨x1, x2, x3, x4, x5, x6, xs⟩ := X
       have p9 : (0 ≤ now) = True := eq_true (by have := HJ.out; omega)
       have q9 : (now < (len : Int)) = True := eq_true (by have := HJ.out; have := HLEN.out; omega)
       have HE3 := Aside0.mk HI.out.hN
       replace HI := Aside0.mk (RI.drew HI.out)
       replace BR := Aside0.mk (blk_drew BR.out)
       replace BF := Aside0.mk (blk_drew BF.out)
       replace BT := Aside0.mk (blk_drew BT.out)
       replace BN := Aside0.mk (blk_drew BN.out)
       replace BX := Aside0.mk (blk_drew BX.out)
       replace BY := Aside0.mk (blk_drew BY.out)
       replace HO := Aside0.mk (Kd.R_drew HO.out)
       replace HLC := Aside0.mk (Kd.C_drew HLC.out)
       have HHW := HH
       refine start_ (n := 13) (S := fun w' => w'.cell? ⟨gr, 0, none⟩ = some (.int .i64 a0_0) ∧ w'.cell? ⟨gr, 1, none⟩ = some (.int .i64 a0_1) ∧ w'.cell? ⟨gr, 2, none⟩ = some (.int .i64 a0_2) ∧ w'.cell? ⟨gx, 0, none⟩ = some (.int .i64 b.f0) ∧ w'.cell? ⟨gx, 1, none⟩ = some (.int .i64 b.f1) ∧ w'.cell? ⟨gx, 2, none⟩ = some (.int .i64 b.f2) ∧ w'.cell? ⟨gx, 3, none⟩ = some (.int .i64 b.f3) ∧ w'.cell? ⟨gx, 4, none⟩ = some (.int .i64 b.f4) ∧ w'.cell? ⟨gB, now.toNat, none⟩ = some (.slice A0 Lr.length c0)) (ds := [12]) #[false, false, false, false, false, false, false, false, false, false, false, false, false] (by kernel_rfl) rfl rfl ⟨b0 BR, b1 BR, b2 BR, b0 BX, b1 BX, b2 BX, b3 BX, b4 BX, HH.out⟩ (fun hHeld => ?_)
       replace HH := Aside0.mk (show wr.drew.cell? ⟨gB, now.toNat, none⟩ = some (.slice A0 Lr.length c0) from HHW.out)
       clear HHW HE3
       generalize wr.drew = wd at HI BR BF BT BN BX BY HLC HH HO hHeld ⊢
       refine takeA 0 59 #[true, false, false, false, false, false, false, false, false, false, false, false, false] (by kernel_rfl) hHeld ?_
       refine pureA 1 60 #[true, true, false, false, false, false, false, false, false, false, false, false, false] (by kernel_rfl) ?_
       refine takeA 2 61 #[true, true, true, false, false, false, false, false, false, false, false, false, false] (by kernel_rfl) hHeld ?_
       refine pureA 3 62 #[true, true, true, true, false, false, false, false, false, false, false, false, false] (by kernel_rfl) ?_
       refine pureA 4 63 #[true, true, true, true, true, false, false, false, false, false, false, false, false] (by kernel_rfl) ?_
       refine pureA 5 64 #[true, true, true, true, true, true, false, false, false, false, false, false, false] (by kernel_rfl) ?_
       refine pureA 6 65 #[true, true, true, true, true, true, true, false, false, false, false, false, false] (by kernel_rfl) ?_
       refine pureA 7 66 #[true, true, true, true, true, true, true, true, false, false, false, false, false] (by kernel_rfl) ?_
       refine takeA 8 67 #[true, true, true, true, true, true, true, true, true, false, false, false, false] (by kernel_rfl) hHeld ?_
       clear p9 q9 hHeld
       refine join_ (σ := Value × Value × Nat) 1 #[true, true, true, true, true, true, true, true, true, true, true, true, false] (fun s_ => [(68, s_.1), (69, (.agg #[.bool x1, .int .i64 x2, .int .i64 x3, .int .i64 x4, .int .i64 x5, .int .i64 x6, s_.2.1])), (19, .pointer (some ⟨s_.2.2, 0, none⟩))]) (fun s_ w' => (fun w' => w'.cell? ⟨gr, 0, none⟩ = some (.int .i64 a0_0) ∧ w'.cell? ⟨gr, 1, none⟩ = some (.int .i64 a0_1) ∧ w'.cell? ⟨gr, 2, none⟩ = some (.int .i64 a0_2) ∧ w'.cell? ⟨gx, 0, none⟩ = some (.int .i64 b.f0) ∧ w'.cell? ⟨gx, 1, none⟩ = some (.int .i64 b.f1) ∧ w'.cell? ⟨gx, 2, none⟩ = some (.int .i64 b.f2) ∧ w'.cell? ⟨gx, 3, none⟩ = some (.int .i64 b.f3) ∧ w'.cell? ⟨gx, 4, none⟩ = some (.int .i64 b.f4) ∧ w'.cell? ⟨gB, now.toNat, none⟩ = some (.slice A0 Lr.length c0)) w' ∧ RI w w' N ex okB okT okO gB cB gT cT len rB rT u14 out ∧ w'.heap[gr]? = some (.cells #[.int .i64 a0_0, .int .i64 a0_1, .int .i64 a0_2] 34 (0, 0)) ∧ w'.heap[gf]? = some (.cells #[.slice A2 l2.length c2] 65 (0, 0)) ∧ w'.heap[gt]? = some (.cells #[.int .i64 a3] 3 (0, 0)) ∧ w'.heap[gn]? = some (.cells #[.int .i64 n] 3 (0, 0)) ∧ w'.heap[gx]? = some (.cells #[.int .i64 b.f0, .int .i64 b.f1, .int .i64 b.f2, .int .i64 b.f3, .int .i64 b.f4] 29 (0, 0)) ∧ w'.heap[gy]? = some (.cells #[.int .i64 t.f0, .int .i64 t.f1, .int .i64 t.f2] 48 (0, 0)) ∧ Kd.R k60 60 w' w.heap.size (fun k => N ≤ k ∧ k ≠ s_.2.2) s_.2.1 xs ∧ w'.heap[s_.2.2]? = some (.cells #[.bool false, .int .i64 0, .int .i64 0, .int .i64 0, .int .i64 0, .int .i64 0, .slice none 0 0] 32 (0, 0)) ∧ N ≤ s_.2.2 ) ?_ ?_
       rotate_left
       ·intro hCont
        refine two_ (i := 9) (j := 11) (Ni := some 68) (Nj := some 19) #[true, true, true, true, true, true, true, true, true, true, false, false, false] #[true, true, true, true, true, true, true, true, true, false, false, true, false] rfl rfl rfl rfl (by kernel_rfl) (by decide) (by decide) (fun K hK => ?_) (fun K hK => ?_)
        ·skip
         refine call_ 86 #[.slice A0 Lr.length c0] (by rfl) rfl ?_ ?_
         ·have he := enters_ Try.func86 (by kernel_rfl) rfl #[.slice A0 Lr.length c0] (wd)
          unfold execOp
          simp [resolve, Deferred.ofValue, invoke, Act.eval, he]
         refine (impl_RunPk.calls kp A0 c0 Lr (pks Lr) _ HLC.out HLE.out HKP.out).mono ?_
         rintro e w1_p ⟨v68, rfl, hp, hb⟩
         refine ⟨_, rfl, ?_⟩
         have HP := Aside0.mk hp
         replace HI := Aside0.mk (RI.go HI.out hb); replace BR := bkb BR hb; replace BF := bkb BF hb; replace BT := bkb BT hb; replace BN := bkb BN hb; replace BX := bkb BX hb; replace BY := bkb BY hb; replace HH := Aside0.mk ((hb.cell (World.block_lt_of_cell? _ _ HH.out)).trans HH.out); replace HLC := Aside0.mk (Kd.C_below HLC.out hb); replace HO := Aside0.mk (Kd.R_below HO.out hb)
         clear hp hb
         obtain ⟨Ap, cp, hvp⟩ := Kd.R_slice HP.out
         subst hvp
         refine hK.out _ _ ⟨b0 BR, b1 BR, b2 BR, b0 BX, b1 BX, b2 BX, b3 BX, b4 BX, HH.out⟩ (fun hHeld => ?_)
         clear hK K hHeld
         refine normP ?_
         refine two_ (i := 10) (j := 11) (Ni := some 69) (Nj := some 19) #[true, true, true, true, true, true, true, true, true, true, true, false, false] #[true, true, true, true, true, true, true, true, true, true, false, true, false] rfl rfl rfl rfl (by kernel_rfl) (by decide) (by decide) (fun K hK => ?_) (fun K hK => ?_)
         ·skip
          have hrp := Kd.R_reads' HP.out
          have hrv := Kd.R_reads' HO.out
          refine goesA Try.func17 #[.agg #[.int .i64 a0_0, .int .i64 a0_1, .int .i64 a0_2], .int .i64 now, .agg #[.int .i64 b.f0, .int .i64 b.f1, .int .i64 b.f2, .int .i64 b.f3, .int .i64 b.f4], .slice Av vs.length cv, .slice Ap (pks Lr).length cp] ?_
          refine (impl_BoxTick.calls kp a0_0 a0_1 a0_2 now b.f0 b.f1 b.f2 b.f3 b.f4 Av cv vs Ap cp (pks Lr) x1 x2 x3 x4 x5 x6 xs _ hrv.2.2 hrv.2.1 hrp.2.2 hrp.2.1 HKB.out).mono ?_
          rintro e w2_pc ⟨v6, rfl, h6, hb⟩
          refine ⟨_, rfl, ?_⟩
          have hbN : N ≤ w1_p.heap.size := HI.out.hN
          have hbw : w.heap.size ≤ w1_p.heap.size := HI.out.size
          have H6 : Aside0 (Kd.R k60 60 w2_pc w.heap.size (fun k => N ≤ k) v6 xs) := ⟨Kd.R_lower (Kd.R_mono (Kd.R_bound h6) (fun k hk => Nat.le_trans hbN hk.2.1)) hbw⟩
          replace HI := Aside0.mk (RI.go HI.out hb); replace BR := bkb BR hb; replace BF := bkb BF hb; replace BT := bkb BT hb; replace BN := bkb BN hb; replace BX := bkb BX hb; replace BY := bkb BY hb; replace HH := Aside0.mk ((hb.cell (World.block_lt_of_cell? _ _ HH.out)).trans HH.out); replace HLC := Aside0.mk (Kd.C_below HLC.out hb)
          clear h6 hb hbN hbw hrp HP hrv HO
          refine hK.out _ _ ⟨b0 BR, b1 BR, b2 BR, b0 BX, b1 BX, b2 BX, b3 BX, b4 BX, HH.out⟩ (fun hHeld => ?_)
          clear hK K hHeld
          refine normP ?_
          refine one_ (i := 11) (N := some 19) #[true, true, true, true, true, true, true, true, true, true, true, true, false] rfl rfl (by kernel_rfl) (by decide) (fun K hK => ?_)
          refine event_step (w1 := w2_pc.alloc (.cells #[.bool false, .int .i64 0, .int .i64 0, .int .i64 0, .int .i64 0, .int .i64 0, .slice none 0 0] 32)) (v := .pointer (some ⟨w2_pc.heap.size, 0, none⟩)) (by rfl) (by first | (go_simp; done) | (go_simp; rfl)) ?_
          have hb := below_alloc (Below.refl w2_pc.heap.size w2_pc) (.cells #[.bool false, .int .i64 0, .int .i64 0, .int .i64 0, .int .i64 0, .int .i64 0, .slice none 0 0] 32)
          have HG2 := Aside0.mk (blk_new w2_pc (.cells #[.bool false, .int .i64 0, .int .i64 0, .int .i64 0, .int .i64 0, .int .i64 0, .slice none 0 0] 32))
          have NG := Aside0.mk HI.out.hN
          have H6' : Aside0 (Kd.R k60 60 w2_pc w.heap.size (fun k => N ≤ k ∧ k ≠ w2_pc.heap.size) v6 xs) := ⟨Kd.R_elderB H6.out _ (Nat.le_refl _)⟩
          clear H6
          have H6 := H6'
          clear H6'
          replace HI := Aside0.mk (RI.go HI.out hb); replace BR := bkb BR hb; replace BF := bkb BF hb; replace BT := bkb BT hb; replace BN := bkb BN hb; replace BX := bkb BX hb; replace BY := bkb BY hb; replace HH := Aside0.mk ((hb.cell (World.block_lt_of_cell? _ _ HH.out)).trans HH.out); replace HLC := Aside0.mk (Kd.C_below HLC.out hb); replace H6 := Aside0.mk (Kd.R_below H6.out hb)
          clear hb
          generalize w2_pc.alloc (.cells #[.bool false, .int .i64 0, .int .i64 0, .int .i64 0, .int .i64 0, .int .i64 0, .slice none 0 0] 32) = w3_cpa at HI BR BF BT BN BX BY HH HLC HG2 H6 ⊢
          obtain ⟨g19, hg19⟩ : ∃ x, x = w2_pc.heap.size := ⟨_, rfl⟩
          rw [← hg19] at HG2 NG H6 ⊢
          clear hg19
          refine hK.out _ _ ⟨b0 BR, b1 BR, b2 BR, b0 BX, b1 BX, b2 BX, b3 BX, b4 BX, HH.out⟩ (fun hHeld => ?_)
          clear hK K hHeld
          refine norm_ (a' := ?_) ?_ ?_
          rotate_left
          ·show Act.put _ (some 19) _ = _
           simp only [Act.put, List.setIfInBounds_toArray, List.set_cons_zero, List.set_cons_succ, i64_w, i32_w]
           rfl
          exact norm_ (by simp only [putAll, Act.put, List.setIfInBounds_toArray, List.set_cons_zero, List.set_cons_succ]) (hCont (.slice Ap (pks Lr).length cp, v6, g19) _ ⟨⟨b0 BR, b1 BR, b2 BR, b0 BX, b1 BX, b2 BX, b3 BX, b4 BX, HH.out⟩, HI.out, BR.out, BF.out, BT.out, BN.out, BX.out, BY.out, H6.out, HG2.out, NG.out⟩)
         ·skip
          refine event_step (w1 := w1_p.alloc (.cells #[.bool false, .int .i64 0, .int .i64 0, .int .i64 0, .int .i64 0, .int .i64 0, .slice none 0 0] 32)) (v := .pointer (some ⟨w1_p.heap.size, 0, none⟩)) (by rfl) (by first | (go_simp; done) | (go_simp; rfl)) ?_
          have hb := below_alloc (Below.refl w1_p.heap.size w1_p) (.cells #[.bool false, .int .i64 0, .int .i64 0, .int .i64 0, .int .i64 0, .int .i64 0, .slice none 0 0] 32)
          have HG2 := Aside0.mk (blk_new w1_p (.cells #[.bool false, .int .i64 0, .int .i64 0, .int .i64 0, .int .i64 0, .int .i64 0, .slice none 0 0] 32))
          have NG := Aside0.mk HI.out.hN
          replace HI := Aside0.mk (RI.go HI.out hb); replace BR := bkb BR hb; replace BF := bkb BF hb; replace BT := bkb BT hb; replace BN := bkb BN hb; replace BX := bkb BX hb; replace BY := bkb BY hb; replace HH := Aside0.mk ((hb.cell (World.block_lt_of_cell? _ _ HH.out)).trans HH.out); replace HLC := Aside0.mk (Kd.C_below HLC.out hb); replace HO := Aside0.mk (Kd.R_below HO.out hb); replace HP := Aside0.mk (Kd.R_below HP.out hb)
          clear hb
          generalize w1_p.alloc (.cells #[.bool false, .int .i64 0, .int .i64 0, .int .i64 0, .int .i64 0, .int .i64 0, .slice none 0 0] 32) = w2_pa at HI BR BF BT BN BX BY HH HLC HG2 HO HP ⊢
          obtain ⟨g19, hg19⟩ : ∃ x, x = w1_p.heap.size := ⟨_, rfl⟩
          rw [← hg19] at HG2 NG ⊢
          clear hg19
          refine hK.out _ _ ⟨b0 BR, b1 BR, b2 BR, b0 BX, b1 BX, b2 BX, b3 BX, b4 BX, HH.out⟩ (fun hHeld => ?_)
          clear hK K hHeld
          refine norm_ (a' := ?_) ?_ ?_
          rotate_left
          ·show Act.put _ (some 19) _ = _
           simp only [Act.put, List.setIfInBounds_toArray, List.set_cons_zero, List.set_cons_succ, i64_w, i32_w]
           rfl
          refine one_ (i := 10) (N := some 69) #[true, true, true, true, true, true, true, true, true, true, true, true, false] rfl rfl (by kernel_rfl) (by decide) (fun K hK => ?_)
          have hrp := Kd.R_reads' HP.out
          have hrv := Kd.R_reads' HO.out
          refine goesA Try.func17 #[.agg #[.int .i64 a0_0, .int .i64 a0_1, .int .i64 a0_2], .int .i64 now, .agg #[.int .i64 b.f0, .int .i64 b.f1, .int .i64 b.f2, .int .i64 b.f3, .int .i64 b.f4], .slice Av vs.length cv, .slice Ap (pks Lr).length cp] ?_
          refine (impl_BoxTick.calls kp a0_0 a0_1 a0_2 now b.f0 b.f1 b.f2 b.f3 b.f4 Av cv vs Ap cp (pks Lr) x1 x2 x3 x4 x5 x6 xs _ hrv.2.2 hrv.2.1 hrp.2.2 hrp.2.1 HKB.out).mono ?_
          rintro e w3_apc ⟨v6, rfl, h6, hb⟩
          refine ⟨_, rfl, ?_⟩
          have hbN : N ≤ w2_pa.heap.size := HI.out.hN
          have hbw : w.heap.size ≤ w2_pa.heap.size := HI.out.size
          have hgl := blk_lt HG2.out
          have H6 : Aside0 (Kd.R k60 60 w3_apc w.heap.size (fun k => N ≤ k ∧ k ≠ g19) v6 xs) := ⟨Kd.R_lower (Kd.R_mono (Kd.R_bound h6) (fun k hk => ⟨Nat.le_trans hbN hk.2.1, by have := hk.2.1; omega⟩)) hbw⟩
          clear hgl
          replace HI := Aside0.mk (RI.go HI.out hb); replace BR := bkb BR hb; replace BF := bkb BF hb; replace BT := bkb BT hb; replace BN := bkb BN hb; replace BX := bkb BX hb; replace BY := bkb BY hb; replace HH := Aside0.mk ((hb.cell (World.block_lt_of_cell? _ _ HH.out)).trans HH.out); replace HLC := Aside0.mk (Kd.C_below HLC.out hb); replace HG2 := bkb HG2 hb
          clear h6 hb hbN hbw hrp HP hrv HO
          refine hK.out _ _ ⟨b0 BR, b1 BR, b2 BR, b0 BX, b1 BX, b2 BX, b3 BX, b4 BX, HH.out⟩ (fun hHeld => ?_)
          clear hK K hHeld
          refine normP ?_
          exact norm_ (by simp only [putAll, Act.put, List.setIfInBounds_toArray, List.set_cons_zero, List.set_cons_succ]) (hCont (.slice Ap (pks Lr).length cp, v6, g19) _ ⟨⟨b0 BR, b1 BR, b2 BR, b0 BX, b1 BX, b2 BX, b3 BX, b4 BX, HH.out⟩, HI.out, BR.out, BF.out, BT.out, BN.out, BX.out, BY.out, H6.out, HG2.out, NG.out⟩)
        ·skip
         refine event_step (w1 := wd.alloc (.cells #[.bool false, .int .i64 0, .int .i64 0, .int .i64 0, .int .i64 0, .int .i64 0, .slice none 0 0] 32)) (v := .pointer (some ⟨wd.heap.size, 0, none⟩)) (by rfl) (by first | (go_simp; done) | (go_simp; rfl)) ?_
         have hb := below_alloc (Below.refl wd.heap.size wd) (.cells #[.bool false, .int .i64 0, .int .i64 0, .int .i64 0, .int .i64 0, .int .i64 0, .slice none 0 0] 32)
         have HG2 := Aside0.mk (blk_new wd (.cells #[.bool false, .int .i64 0, .int .i64 0, .int .i64 0, .int .i64 0, .int .i64 0, .slice none 0 0] 32))
         have NG := Aside0.mk HI.out.hN
         replace HI := Aside0.mk (RI.go HI.out hb); replace BR := bkb BR hb; replace BF := bkb BF hb; replace BT := bkb BT hb; replace BN := bkb BN hb; replace BX := bkb BX hb; replace BY := bkb BY hb; replace HH := Aside0.mk ((hb.cell (World.block_lt_of_cell? _ _ HH.out)).trans HH.out); replace HLC := Aside0.mk (Kd.C_below HLC.out hb); replace HO := Aside0.mk (Kd.R_below HO.out hb)
         clear hb
         generalize wd.alloc (.cells #[.bool false, .int .i64 0, .int .i64 0, .int .i64 0, .int .i64 0, .int .i64 0, .slice none 0 0] 32) = w1_a at HI BR BF BT BN BX BY HH HLC HG2 HO ⊢
         obtain ⟨g19, hg19⟩ : ∃ x, x = wd.heap.size := ⟨_, rfl⟩
         rw [← hg19] at HG2 NG ⊢
         clear hg19
         refine hK.out _ _ ⟨b0 BR, b1 BR, b2 BR, b0 BX, b1 BX, b2 BX, b3 BX, b4 BX, HH.out⟩ (fun hHeld => ?_)
         clear hK K hHeld
         refine norm_ (a' := ?_) ?_ ?_
         rotate_left
         ·show Act.put _ (some 19) _ = _
          simp only [Act.put, List.setIfInBounds_toArray, List.set_cons_zero, List.set_cons_succ, i64_w, i32_w]
          rfl
         refine one_ (i := 9) (N := some 68) #[true, true, true, true, true, true, true, true, true, true, false, true, false] rfl rfl (by kernel_rfl) (by decide) (fun K hK => ?_)
         refine call_ 86 #[.slice A0 Lr.length c0] (by rfl) rfl ?_ ?_
         ·have he := enters_ Try.func86 (by kernel_rfl) rfl #[.slice A0 Lr.length c0] (w1_a)
          unfold execOp
          simp [resolve, Deferred.ofValue, invoke, Act.eval, he]
         refine (impl_RunPk.calls kp A0 c0 Lr (pks Lr) _ HLC.out HLE.out HKP.out).mono ?_
         rintro e w2_ap ⟨v68, rfl, hp, hb⟩
         refine ⟨_, rfl, ?_⟩
         have HP := Aside0.mk hp
         replace HI := Aside0.mk (RI.go HI.out hb); replace BR := bkb BR hb; replace BF := bkb BF hb; replace BT := bkb BT hb; replace BN := bkb BN hb; replace BX := bkb BX hb; replace BY := bkb BY hb; replace HH := Aside0.mk ((hb.cell (World.block_lt_of_cell? _ _ HH.out)).trans HH.out); replace HLC := Aside0.mk (Kd.C_below HLC.out hb); replace HO := Aside0.mk (Kd.R_below HO.out hb); replace HG2 := bkb HG2 hb
         clear hp hb
         obtain ⟨Ap, cp, hvp⟩ := Kd.R_slice HP.out
         subst hvp
         refine hK.out _ _ ⟨b0 BR, b1 BR, b2 BR, b0 BX, b1 BX, b2 BX, b3 BX, b4 BX, HH.out⟩ (fun hHeld => ?_)
         clear hK K hHeld
         refine normP ?_
         refine one_ (i := 10) (N := some 69) #[true, true, true, true, true, true, true, true, true, true, true, true, false] rfl rfl (by kernel_rfl) (by decide) (fun K hK => ?_)
         have hrp := Kd.R_reads' HP.out
         have hrv := Kd.R_reads' HO.out
         refine goesA Try.func17 #[.agg #[.int .i64 a0_0, .int .i64 a0_1, .int .i64 a0_2], .int .i64 now, .agg #[.int .i64 b.f0, .int .i64 b.f1, .int .i64 b.f2, .int .i64 b.f3, .int .i64 b.f4], .slice Av vs.length cv, .slice Ap (pks Lr).length cp] ?_
         refine (impl_BoxTick.calls kp a0_0 a0_1 a0_2 now b.f0 b.f1 b.f2 b.f3 b.f4 Av cv vs Ap cp (pks Lr) x1 x2 x3 x4 x5 x6 xs _ hrv.2.2 hrv.2.1 hrp.2.2 hrp.2.1 HKB.out).mono ?_
         rintro e w3_apc ⟨v6, rfl, h6, hb⟩
         refine ⟨_, rfl, ?_⟩
         have hbN : N ≤ w2_ap.heap.size := HI.out.hN
         have hbw : w.heap.size ≤ w2_ap.heap.size := HI.out.size
         have hgl := blk_lt HG2.out
         have H6 : Aside0 (Kd.R k60 60 w3_apc w.heap.size (fun k => N ≤ k ∧ k ≠ g19) v6 xs) := ⟨Kd.R_lower (Kd.R_mono (Kd.R_bound h6) (fun k hk => ⟨Nat.le_trans hbN hk.2.1, by have := hk.2.1; omega⟩)) hbw⟩
         clear hgl
         replace HI := Aside0.mk (RI.go HI.out hb); replace BR := bkb BR hb; replace BF := bkb BF hb; replace BT := bkb BT hb; replace BN := bkb BN hb; replace BX := bkb BX hb; replace BY := bkb BY hb; replace HH := Aside0.mk ((hb.cell (World.block_lt_of_cell? _ _ HH.out)).trans HH.out); replace HLC := Aside0.mk (Kd.C_below HLC.out hb); replace HG2 := bkb HG2 hb
         clear h6 hb hbN hbw hrp HP hrv HO
         refine hK.out _ _ ⟨b0 BR, b1 BR, b2 BR, b0 BX, b1 BX, b2 BX, b3 BX, b4 BX, HH.out⟩ (fun hHeld => ?_)
         clear hK K hHeld
         refine normP ?_
         exact norm_ (by simp only [putAll, Act.put, List.setIfInBounds_toArray, List.set_cons_zero, List.set_cons_succ]) (hCont (.slice Ap (pks Lr).length cp, v6, g19) _ ⟨⟨b0 BR, b1 BR, b2 BR, b0 BX, b1 BX, b2 BX, b3 BX, b4 BX, HH.out⟩, HI.out, BR.out, BF.out, BT.out, BN.out, BX.out, BY.out, H6.out, HG2.out, NG.out⟩)
       rintro ⟨v68, v6, g19⟩ we ⟨hHeld, HI2, hBR, hBF, hBT, hBN, hBX, hBY, H6, HG2, NG⟩
       clear HI BR BF BT BN BX BY HH HLC HO HKB hHeld HV
       have HI := Aside0.mk HI2
       have BR := Aside0.mk hBR
       have BF := Aside0.mk hBF
       have BT := Aside0.mk hBT
       have BN := Aside0.mk hBN
       have BX := Aside0.mk hBX
       have BY := Aside0.mk hBY
       replace H6 : Aside0 (Kd.R k60 60 we w.heap.size (fun k => N ≤ k ∧ k ≠ g19) v6 xs) := ⟨H6⟩
       replace HG2 : Aside0 (we.heap[g19]? = some (.cells #[.bool false, .int .i64 0, .int .i64 0, .int .i64 0, .int .i64 0, .int .i64 0, .slice none 0 0] 32 (0, 0))) := ⟨HG2⟩
       replace NG : Aside0 (N ≤ g19) := ⟨NG⟩
       clear HI2 hBR hBF hBT hBN hBX hBY
       refine normA ?_
       refine last_ (i := 12) (N := none) #[true, true, true, true, true, true, true, true, true, true, true, true, true] rfl rfl (by kernel_rfl) (by decide) (fun K hK => ?_)
       have k0 := b0 HG2; have z0 := blk_frozen HG2.out 0
       have k1 := b1 HG2; have z1 := blk_frozen HG2.out 1
       have k2 := b2 HG2; have z2 := blk_frozen HG2.out 2
       have k3 := b3 HG2; have z3 := blk_frozen HG2.out 3
       have k4 := b4 HG2; have z4 := blk_frozen HG2.out 4
       have k5 := b5 HG2; have z5 := blk_frozen HG2.out 5
       have k6 := b6 HG2; have z6 := blk_frozen HG2.out 6
       obtain ⟨A6, c6, hv6⟩ := Kd.R_slice H6.out
       refine skip_ (w1 := (((((((we.setCell ⟨g19, 0, none⟩ (.bool x1)).setCell ⟨g19, 1, none⟩ (.int .i64 x2)).setCell ⟨g19, 2, none⟩ (.int .i64 x3)).setCell ⟨g19, 3, none⟩ (.int .i64 x4)).setCell ⟨g19, 4, none⟩ (.int .i64 x5)).setCell ⟨g19, 5, none⟩ (.int .i64 x6)).setCell ⟨g19, 6, none⟩ (v6))) (by rfl) rfl (by subst hv6; first | (go_simp; done) | (go_simp; rfl)) ?_
       clear z0 z1 z2 z3 z4 z5 z6
       have hneBR : gr ≠ g19 := fun h => by have := LR.out; have := NG.out; omega
       have hneBF : gf ≠ g19 := fun h => by have := LF.out; have := NG.out; omega
       have hneBT : gt ≠ g19 := fun h => by have := LT.out; have := NG.out; omega
       have hneBN : gn ≠ g19 := fun h => by have := LN.out; have := NG.out; omega
       have hneBX : gx ≠ g19 := fun h => by have := LX.out; have := NG.out; omega
       have hneBY : gy ≠ g19 := fun h => by have := LY.out; have := NG.out; omega
       replace HI := Aside0.mk (RI.set (j := 6) (RI.set (j := 5) (RI.set (j := 4) (RI.set (j := 3) (RI.set (j := 2) (RI.set (j := 1) (RI.set (j := 0) (HI.out) (.inr NG.out) (.bool x1)) (.inr NG.out) (.int .i64 x2)) (.inr NG.out) (.int .i64 x3)) (.inr NG.out) (.int .i64 x4)) (.inr NG.out) (.int .i64 x5)) (.inr NG.out) (.int .i64 x6)) (.inr NG.out) (v6))
       replace BR := Aside0.mk (blk_far (p := ⟨g19, 6, none⟩) (blk_far (p := ⟨g19, 5, none⟩) (blk_far (p := ⟨g19, 4, none⟩) (blk_far (p := ⟨g19, 3, none⟩) (blk_far (p := ⟨g19, 2, none⟩) (blk_far (p := ⟨g19, 1, none⟩) (blk_far (p := ⟨g19, 0, none⟩) (BR.out) hneBR (.bool x1)) hneBR (.int .i64 x2)) hneBR (.int .i64 x3)) hneBR (.int .i64 x4)) hneBR (.int .i64 x5)) hneBR (.int .i64 x6)) hneBR (v6))
       replace BF := Aside0.mk (blk_far (p := ⟨g19, 6, none⟩) (blk_far (p := ⟨g19, 5, none⟩) (blk_far (p := ⟨g19, 4, none⟩) (blk_far (p := ⟨g19, 3, none⟩) (blk_far (p := ⟨g19, 2, none⟩) (blk_far (p := ⟨g19, 1, none⟩) (blk_far (p := ⟨g19, 0, none⟩) (BF.out) hneBF (.bool x1)) hneBF (.int .i64 x2)) hneBF (.int .i64 x3)) hneBF (.int .i64 x4)) hneBF (.int .i64 x5)) hneBF (.int .i64 x6)) hneBF (v6))
       replace BT := Aside0.mk (blk_far (p := ⟨g19, 6, none⟩) (blk_far (p := ⟨g19, 5, none⟩) (blk_far (p := ⟨g19, 4, none⟩) (blk_far (p := ⟨g19, 3, none⟩) (blk_far (p := ⟨g19, 2, none⟩) (blk_far (p := ⟨g19, 1, none⟩) (blk_far (p := ⟨g19, 0, none⟩) (BT.out) hneBT (.bool x1)) hneBT (.int .i64 x2)) hneBT (.int .i64 x3)) hneBT (.int .i64 x4)) hneBT (.int .i64 x5)) hneBT (.int .i64 x6)) hneBT (v6))
       replace BN := Aside0.mk (blk_far (p := ⟨g19, 6, none⟩) (blk_far (p := ⟨g19, 5, none⟩) (blk_far (p := ⟨g19, 4, none⟩) (blk_far (p := ⟨g19, 3, none⟩) (blk_far (p := ⟨g19, 2, none⟩) (blk_far (p := ⟨g19, 1, none⟩) (blk_far (p := ⟨g19, 0, none⟩) (BN.out) hneBN (.bool x1)) hneBN (.int .i64 x2)) hneBN (.int .i64 x3)) hneBN (.int .i64 x4)) hneBN (.int .i64 x5)) hneBN (.int .i64 x6)) hneBN (v6))
       replace BX := Aside0.mk (blk_far (p := ⟨g19, 6, none⟩) (blk_far (p := ⟨g19, 5, none⟩) (blk_far (p := ⟨g19, 4, none⟩) (blk_far (p := ⟨g19, 3, none⟩) (blk_far (p := ⟨g19, 2, none⟩) (blk_far (p := ⟨g19, 1, none⟩) (blk_far (p := ⟨g19, 0, none⟩) (BX.out) hneBX (.bool x1)) hneBX (.int .i64 x2)) hneBX (.int .i64 x3)) hneBX (.int .i64 x4)) hneBX (.int .i64 x5)) hneBX (.int .i64 x6)) hneBX (v6))
       replace BY := Aside0.mk (blk_far (p := ⟨g19, 6, none⟩) (blk_far (p := ⟨g19, 5, none⟩) (blk_far (p := ⟨g19, 4, none⟩) (blk_far (p := ⟨g19, 3, none⟩) (blk_far (p := ⟨g19, 2, none⟩) (blk_far (p := ⟨g19, 1, none⟩) (blk_far (p := ⟨g19, 0, none⟩) (BY.out) hneBY (.bool x1)) hneBY (.int .i64 x2)) hneBY (.int .i64 x3)) hneBY (.int .i64 x4)) hneBY (.int .i64 x5)) hneBY (.int .i64 x6)) hneBY (v6))
       replace HG2 := Aside0.mk (blk_put (cs := #[.bool x1, .int .i64 x2, .int .i64 x3, .int .i64 x4, .int .i64 x5, .int .i64 x6, .slice none 0 0]) (cs' := #[.bool x1, .int .i64 x2, .int .i64 x3, .int .i64 x4, .int .i64 x5, .int .i64 x6, v6]) (blk_put (cs := #[.bool x1, .int .i64 x2, .int .i64 x3, .int .i64 x4, .int .i64 x5, .int .i64 0, .slice none 0 0]) (cs' := #[.bool x1, .int .i64 x2, .int .i64 x3, .int .i64 x4, .int .i64 x5, .int .i64 x6, .slice none 0 0]) (blk_put (cs := #[.bool x1, .int .i64 x2, .int .i64 x3, .int .i64 x4, .int .i64 0, .int .i64 0, .slice none 0 0]) (cs' := #[.bool x1, .int .i64 x2, .int .i64 x3, .int .i64 x4, .int .i64 x5, .int .i64 0, .slice none 0 0]) (blk_put (cs := #[.bool x1, .int .i64 x2, .int .i64 x3, .int .i64 0, .int .i64 0, .int .i64 0, .slice none 0 0]) (cs' := #[.bool x1, .int .i64 x2, .int .i64 x3, .int .i64 x4, .int .i64 0, .int .i64 0, .slice none 0 0]) (blk_put (cs := #[.bool x1, .int .i64 x2, .int .i64 0, .int .i64 0, .int .i64 0, .int .i64 0, .slice none 0 0]) (cs' := #[.bool x1, .int .i64 x2, .int .i64 x3, .int .i64 0, .int .i64 0, .int .i64 0, .slice none 0 0]) (blk_put (cs := #[.bool x1, .int .i64 0, .int .i64 0, .int .i64 0, .int .i64 0, .int .i64 0, .slice none 0 0]) (cs' := #[.bool x1, .int .i64 x2, .int .i64 0, .int .i64 0, .int .i64 0, .int .i64 0, .slice none 0 0]) (blk_put (cs := #[.bool false, .int .i64 0, .int .i64 0, .int .i64 0, .int .i64 0, .int .i64 0, .slice none 0 0]) (cs' := #[.bool x1, .int .i64 0, .int .i64 0, .int .i64 0, .int .i64 0, .int .i64 0, .slice none 0 0]) (HG2.out) 0 (.bool x1) rfl) 1 (.int .i64 x2) rfl) 2 (.int .i64 x3) rfl) 3 (.int .i64 x4) rfl) 4 (.int .i64 x5) rfl) 5 (.int .i64 x6) rfl) 6 (v6) rfl)
       replace H6 := Aside0.mk (Kd.R_far (p := ⟨g19, 6, none⟩) (Kd.R_far (p := ⟨g19, 5, none⟩) (Kd.R_far (p := ⟨g19, 4, none⟩) (Kd.R_far (p := ⟨g19, 3, none⟩) (Kd.R_far (p := ⟨g19, 2, none⟩) (Kd.R_far (p := ⟨g19, 1, none⟩) (Kd.R_far (p := ⟨g19, 0, none⟩) (H6.out) (fun _ h => h.2) (.bool x1)) (fun _ h => h.2) (.int .i64 x2)) (fun _ h => h.2) (.int .i64 x3)) (fun _ h => h.2) (.int .i64 x4)) (fun _ h => h.2) (.int .i64 x5)) (fun _ h => h.2) (.int .i64 x6)) (fun _ h => h.2) (v6))
       clear hneBR hneBF hneBT hneBN hneBX hneBY k0 k1 k2 k3 k4 k5 k6
       generalize (((((((we.setCell ⟨g19, 0, none⟩ (.bool x1)).setCell ⟨g19, 1, none⟩ (.int .i64 x2)).setCell ⟨g19, 2, none⟩ (.int .i64 x3)).setCell ⟨g19, 3, none⟩ (.int .i64 x4)).setCell ⟨g19, 4, none⟩ (.int .i64 x5)).setCell ⟨g19, 5, none⟩ (.int .i64 x6)).setCell ⟨g19, 6, none⟩ (v6)) = wf at HI BR BF BT BN BX BY HG2 H6 ⊢
       refine hK.out _ _ ?_
       clear hK K
       refine done_ (by kernel_rfl) ?_
       have k0 := b0 HG2; have k1q := b1 HG2; have k2 := b2 HG2; have k3 := b3 HG2; have k4 := b4 HG2; have k5 := b5 HG2
       cases x1 with
       | false =>
        have hr : ([] : List S86) = r := by rw [← HA.out]; exact (run_box (by rw [← HVS.out.1, ← HLr.out]; exact HX.out.symm)).symm
        clear hv6
        go_wp2
        go_ret
        exact ⟨_, rfl, by rw [← hr]; exact Kd.R_nil _ _ _ _ _, HI.out.below⟩
       | true =>
        have u0 := b0 BX; have u1 := b1 BX; have u2 := b2 BX; have u3 := b3 BX; have u4 := b4 BX; have y0 := blk_frozen BX.out 0; have y1 := blk_frozen BX.out 1; have y2_ := blk_frozen BX.out 2; have y3_ := blk_frozen BX.out 3; have y4_ := blk_frozen BX.out 4
        clear hv6
        have k6 := b6 HG2
        have hnx1 : g19 ≠ gx := fun h => by have := LX.out; have := NG.out; omega
        have HXX : Aside0 (boxF a0_0 a0_1 a0_2 now b (vals now sets).1 (pks (rB.getD now.toNat [])) = (true, x2, x3, x4, x5, x6, xs)) := ⟨by rw [← HVS.out.1, ← HLr.out]; exact HX.out.symm⟩
        have HXL := Aside0.mk (box_sent HX.out)
        go_upto_region 22 with (fail)
        clear u0 u1 u2 u3 u4 y0 y1 y2_ y3_ y4_ k0 k1q k2 k3 k4 k5
        have hne1 : ∀ k, N ≤ k ∧ k ≠ g19 → k ≠ gx := fun k hk h => by have := LX.out; have := hk.1; omega
        replace HI := Aside0.mk (RI.set (j := 4) (RI.set (j := 3) (RI.set (j := 2) (RI.set (j := 1) (RI.set (j := 0) (HI.out) (.inl XX.out) (.int .i64 x2)) (.inl XX.out) (.int .i64 x3)) (.inl XX.out) (.int .i64 x4)) (.inl XX.out) (.int .i64 x5)) (.inl XX.out) (.int .i64 x6))
        replace BR := Aside0.mk (blk_far (p := ⟨gx, 4, none⟩) (blk_far (p := ⟨gx, 3, none⟩) (blk_far (p := ⟨gx, 2, none⟩) (blk_far (p := ⟨gx, 1, none⟩) (blk_far (p := ⟨gx, 0, none⟩) (BR.out) (NRX.out) (.int .i64 x2)) (NRX.out) (.int .i64 x3)) (NRX.out) (.int .i64 x4)) (NRX.out) (.int .i64 x5)) (NRX.out) (.int .i64 x6))
        replace BF := Aside0.mk (blk_far (p := ⟨gx, 4, none⟩) (blk_far (p := ⟨gx, 3, none⟩) (blk_far (p := ⟨gx, 2, none⟩) (blk_far (p := ⟨gx, 1, none⟩) (blk_far (p := ⟨gx, 0, none⟩) (BF.out) (NFX.out) (.int .i64 x2)) (NFX.out) (.int .i64 x3)) (NFX.out) (.int .i64 x4)) (NFX.out) (.int .i64 x5)) (NFX.out) (.int .i64 x6))
        replace BT := Aside0.mk (blk_far (p := ⟨gx, 4, none⟩) (blk_far (p := ⟨gx, 3, none⟩) (blk_far (p := ⟨gx, 2, none⟩) (blk_far (p := ⟨gx, 1, none⟩) (blk_far (p := ⟨gx, 0, none⟩) (BT.out) (NTX.out) (.int .i64 x2)) (NTX.out) (.int .i64 x3)) (NTX.out) (.int .i64 x4)) (NTX.out) (.int .i64 x5)) (NTX.out) (.int .i64 x6))
        replace BN := Aside0.mk (blk_far (p := ⟨gx, 4, none⟩) (blk_far (p := ⟨gx, 3, none⟩) (blk_far (p := ⟨gx, 2, none⟩) (blk_far (p := ⟨gx, 1, none⟩) (blk_far (p := ⟨gx, 0, none⟩) (BN.out) (NNX.out) (.int .i64 x2)) (NNX.out) (.int .i64 x3)) (NNX.out) (.int .i64 x4)) (NNX.out) (.int .i64 x5)) (NNX.out) (.int .i64 x6))
        replace BY := Aside0.mk (blk_far (p := ⟨gx, 4, none⟩) (blk_far (p := ⟨gx, 3, none⟩) (blk_far (p := ⟨gx, 2, none⟩) (blk_far (p := ⟨gx, 1, none⟩) (blk_far (p := ⟨gx, 0, none⟩) (BY.out) (fun h => NXY.out h.symm) (.int .i64 x2)) (fun h => NXY.out h.symm) (.int .i64 x3)) (fun h => NXY.out h.symm) (.int .i64 x4)) (fun h => NXY.out h.symm) (.int .i64 x5)) (fun h => NXY.out h.symm) (.int .i64 x6))
        replace HG2 := Aside0.mk (blk_far (p := ⟨gx, 4, none⟩) (blk_far (p := ⟨gx, 3, none⟩) (blk_far (p := ⟨gx, 2, none⟩) (blk_far (p := ⟨gx, 1, none⟩) (blk_far (p := ⟨gx, 0, none⟩) (HG2.out) (hnx1) (.int .i64 x2)) (hnx1) (.int .i64 x3)) (hnx1) (.int .i64 x4)) (hnx1) (.int .i64 x5)) (hnx1) (.int .i64 x6))
        replace BX := Aside0.mk (blk_put (cs := #[.int .i64 x2, .int .i64 x3, .int .i64 x4, .int .i64 x5, .int .i64 b.f4]) (cs' := #[.int .i64 x2, .int .i64 x3, .int .i64 x4, .int .i64 x5, .int .i64 x6]) (blk_put (cs := #[.int .i64 x2, .int .i64 x3, .int .i64 x4, .int .i64 b.f3, .int .i64 b.f4]) (cs' := #[.int .i64 x2, .int .i64 x3, .int .i64 x4, .int .i64 x5, .int .i64 b.f4]) (blk_put (cs := #[.int .i64 x2, .int .i64 x3, .int .i64 b.f2, .int .i64 b.f3, .int .i64 b.f4]) (cs' := #[.int .i64 x2, .int .i64 x3, .int .i64 x4, .int .i64 b.f3, .int .i64 b.f4]) (blk_put (cs := #[.int .i64 x2, .int .i64 b.f1, .int .i64 b.f2, .int .i64 b.f3, .int .i64 b.f4]) (cs' := #[.int .i64 x2, .int .i64 x3, .int .i64 b.f2, .int .i64 b.f3, .int .i64 b.f4]) (blk_put (cs := #[.int .i64 b.f0, .int .i64 b.f1, .int .i64 b.f2, .int .i64 b.f3, .int .i64 b.f4]) (cs' := #[.int .i64 x2, .int .i64 b.f1, .int .i64 b.f2, .int .i64 b.f3, .int .i64 b.f4]) (BX.out) 0 (.int .i64 x2) rfl) 1 (.int .i64 x3) rfl) 2 (.int .i64 x4) rfl) 3 (.int .i64 x5) rfl) 4 (.int .i64 x6) rfl)
        replace H6 := Aside0.mk (Kd.R_far (p := ⟨gx, 4, none⟩) (Kd.R_far (p := ⟨gx, 3, none⟩) (Kd.R_far (p := ⟨gx, 2, none⟩) (Kd.R_far (p := ⟨gx, 1, none⟩) (Kd.R_far (p := ⟨gx, 0, none⟩) (H6.out) (hne1) (.int .i64 x2)) (hne1) (.int .i64 x3)) (hne1) (.int .i64 x4)) (hne1) (.int .i64 x5)) (hne1) (.int .i64 x6))
        generalize (((((wf.setCell ⟨gx, 0, none⟩ (.int .i64 x2)).setCell ⟨gx, 1, none⟩ (.int .i64 x3)).setCell ⟨gx, 2, none⟩ (.int .i64 x4)).setCell ⟨gx, 3, none⟩ (.int .i64 x5)).setCell ⟨gx, 4, none⟩ (.int .i64 x6)) = wg at HI BR BF BT BN BY HG2 BX H6 ⊢
        clear hne1 hnx1
        obtain ⟨A6, c6, hv6⟩ := Kd.R_slice H6.out
        subst hv6
        have B19 := HG2
        clear HG2
        have HE5 := Aside0.mk HI.out.hN
        have hrs := Kd.R_reads' H6.out
        have lBR := blk_lt BR.out
        have lBF := blk_lt BF.out
        have lBT := blk_lt BT.out
        have lBN := blk_lt BN.out
        have lBX := blk_lt BX.out
        have lBY := blk_lt BY.out
        have lB19 := blk_lt B19.out
        have hos : ∀ g, ex g → g < wg.heap.size → ¬ (okT g ∨ wg.heap.size ≤ g) := fun g he hl h => h.elim (fun h => (HI.out.bT g h).2 he) (fun h => by omega)
        have hsend := send_calls w wg (fun k => okT k ∨ wg.heap.size ≤ k) (fun k => (N ≤ k ∧ k ≠ g19) ∧ k < wg.heap.size) gT cT rT now a3 A6 c6 xs gn gf gt n A2 c2 l2 50000 (by rw [HI.out.lT]; exact Kd.S_mono HI.out.hT (fun k hk => .inl hk)) (by rw [HI.out.lT]; have := HLEN.out; have := HG.out.t0; omega) (Kd.F_bound (Kd.R_F H6.out)) hrs.2.1 (fun k hk h => h.elim (fun h => by have := (HI.out.bT k h).1; have := hk.1; omega) (fun h => by have := hk.2; omega)) (fun k hk => .inr hk) BN.out BF.out BT.out GN.out (hos gn XN.out lBN) (hos gf XF.out lBF) (hos gt XT.out lBT) (fun h => by have := LN.out; have := h.1; omega) NFN.out NTN.out HR2.out HI.out.below (by have := HJ.out; omega) (by have := HJ.out; have := HG.out.t1; omega) HG.out.t1 (by have := HJ.out; omega) (by have := HJ.out; have := HXL.out; have := HG.out.t1; omega) (by have := HXL.out; omega) HG.out.fa (fun q hq => by have h1 := HJ.out.2.2.2.2.2.1 q hq; have := HG.out.n2; omega) (by have := HXL.out; omega)
        rw [HI.out.lT] at hsend
        have kv := b6 B19
        go_wp2_with (first | ((with_reducible refine gate_dst (N := 80) rfl ?_); refine enterL (some 80) rfl 85 #[.slice (some ⟨gT, 0, none⟩) len cT, .int .i64 now, .slice A6 xs.length c6, .pointer (some ⟨gn, 0, none⟩), .pointer (some ⟨gf, 0, none⟩), .pointer (some ⟨gt, 0, none⟩)] rfl ?hrun ?_; (case hrun => have he := enters_ Try.func85 (by kernel_rfl) rfl #[.slice (some ⟨gT, 0, none⟩) len cT, .int .i64 now, .slice A6 xs.length c6, .pointer (some ⟨gn, 0, none⟩), .pointer (some ⟨gf, 0, none⟩), .pointer (some ⟨gt, 0, none⟩)] wg; unfold execOp; simp [resolve, Deferred.ofValue, invoke, Act.eval, he]); refine hsend.mono ?_; rintro e wh ⟨vv, rfl, hs, hn, hk, hb⟩; refine ⟨_, rfl, ?_⟩; clear hsend; have HI3 := RI.sentT HI.out hs hk XN.out hb (by rw [sendL_len]; exact HI.out.lT); replace BR := Aside0.mk (blk_kept BR.out hk (fun h => h.elim (hos gr XR.out lBR) (fun e => NRN.out e))); replace BF := Aside0.mk (blk_kept BF.out hk (fun h => h.elim (hos gf XF.out lBF) (fun e => NFN.out e))); replace BT := Aside0.mk (blk_kept BT.out hk (fun h => h.elim (hos gt XT.out lBT) (fun e => NTN.out e))); replace BX := Aside0.mk (blk_kept BX.out hk (fun h => h.elim (hos gx XX.out lBX) (fun e => NNX.out e.symm))); replace BY := Aside0.mk (blk_kept BY.out hk (fun h => h.elim (hos gy XY.out lBY) (fun e => NNY.out e.symm))); replace B19 := Aside0.mk (blk_kept B19.out hk (fun h => h.elim (fun h => h.elim (fun h => Nat.lt_irrefl _ (Nat.lt_of_lt_of_le (HI.out.bT g19 h).1 NG.out)) (fun h => Nat.lt_irrefl _ (Nat.lt_of_lt_of_le lB19 h))) (fun e => Nat.lt_irrefl _ (Nat.lt_of_lt_of_le LN.out (e ▸ NG.out))))); replace BN := Aside0.mk hn; clear HI; have HI := Aside0.mk HI3; clear HI3 hs hk hb hn kv))
        have D19 : Aside0 (g19 ≠ gn ∧ g19 ≠ gy) := ⟨by have h1 := LN.out; have h2 := LY.out; have h3 := NG.out; omega, by have h1 := LN.out; have h2 := LY.out; have h3 := NG.out; omega⟩
        clear hrs hos lBR lBF lBT lBN lBX lBY HE5 H6
        obtain ⟨N1, hN1⟩ : ∃ x, x = wh.heap.size := ⟨_, rfl⟩
        rw [← hN1] at HI
        replace LR := Aside0.mk (hN1 ▸ blk_lt BR.out)
        replace LF := Aside0.mk (hN1 ▸ blk_lt BF.out)
        replace LT := Aside0.mk (hN1 ▸ blk_lt BT.out)
        replace LN := Aside0.mk (hN1 ▸ blk_lt BN.out)
        replace LX := Aside0.mk (hN1 ▸ blk_lt BX.out)
        replace LY := Aside0.mk (hN1 ▸ blk_lt BY.out)
        have L19 := Aside0.mk (hN1 ▸ blk_lt B19.out)
        obtain ⟨ex1, hex1⟩ : ∃ e : Nat → Prop, e = (fun k => ex k ∨ (N ≤ k ∧ k < wg.heap.size)) := ⟨_, rfl⟩
        replace XR : Aside0 (ex1 gr) := ⟨by rw [hex1]; exact .inl XR.out⟩
        replace XF : Aside0 (ex1 gf) := ⟨by rw [hex1]; exact .inl XF.out⟩
        replace XT : Aside0 (ex1 gt) := ⟨by rw [hex1]; exact .inl XT.out⟩
        replace XN : Aside0 (ex1 gn) := ⟨by rw [hex1]; exact .inl XN.out⟩
        replace XX : Aside0 (ex1 gx) := ⟨by rw [hex1]; exact .inl XX.out⟩
        replace XY : Aside0 (ex1 gy) := ⟨by rw [hex1]; exact .inl XY.out⟩
        have X19 : Aside0 (ex1 g19) := ⟨by rw [hex1]; exact .inr ⟨NG.out, lB19⟩⟩
        clear lB19
        replace HEX : Aside0 (∀ k, (k = gr ∨ k = gf ∨ k = gt ∨ k = gn ∨ k = gx ∨ k = gy) → ex1 k) := ⟨fun k hk => by rw [hex1]; exact .inl (HEX.out k hk)⟩
        rw [← hex1] at HI
        obtain ⟨okT1, hok1⟩ : ∃ e : Nat → Prop, e = (fun k => (okT k ∨ wg.heap.size ≤ k) ∧ k < N1) := ⟨_, rfl⟩
        rw [← hok1] at HI
        obtain ⟨rT1, hrT1⟩ : ∃ e, e = (sendL l2 now a3 xs n rT).1 := ⟨_, rfl⟩
        obtain ⟨n1, hn1⟩ : ∃ e, e = (sendL l2 now a3 xs n rT).2 := ⟨_, rfl⟩
        rw [← hrT1] at HI
        rw [← hn1] at BN
        have HT1 : Aside0 (∀ q, q ∈ rT1 → q.length ≤ 10 * min n1.toNat l2.length) := ⟨fun q hq => by rw [hn1, sendL_n]; rw [hrT1] at hq; exact sendL_mem l2 (fun f hf => (HG.out.fa f hf).1) now a3 xs n rT (by have := HJ.out; omega) HJ.out.2.2.2.2.2.1 q hq⟩
        have HN1 : Aside0 (n1 = n + xs.length) := ⟨by rw [hn1, sendL_n]⟩
        have HRT := Aside0.mk hrT1
        have HNN := Aside0.mk hn1
        clear hex1 hok1 hrT1 hn1 hN1 NG
        obtain ⟨ad0, A0, c0, e0, hh0, hle0, hlc0⟩ := at_L133 (Kd.R_reads' (Kd.S_R HI.out.hT)).2.2 now (by have := HJ.out; omega) (by have := HJ.out; have := HI.out.lT; have := HLEN.out; omega)
        cases e0
        rw [add_at, Nat.zero_add] at hh0
        obtain ⟨Ls, hLs⟩ : ∃ x, x = rT1.getD now.toNat [] := ⟨_, rfl⟩
        rw [← hLs] at hh0 hle0 hlc0
        have HLs := Aside0.mk hLs
        have HH := Aside0.mk hh0
        have HLC := Aside0.mk hlc0
        have HLE := Aside0.mk hle0
        clear hLs hh0 hlc0 hle0
        have HLB : Aside0 (Ls.length ≤ 50000) := ⟨by
         have h1 := HJ.out
         rw [HLs.out, List.getD_eq_getElem?_getD]
         cases hi : rT1[now.toNat]? with
         | none => simp
         | some q =>
          have h2 := HT1.out q (List.mem_of_getElem? hi)
          have h3 := HG.out.n2
          simp only [Option.getD_some]
          omega⟩
        obtain ⟨kp, hkp⟩ : ∃ k, 60000 < k := ⟨60001, by omega⟩
        have HKP := Aside0.mk (rpk_is Ls (by have := HLB.out; omega) kp (by have := HLB.out; omega))
        obtain ⟨Y, hY⟩ : ∃ x, x = trainF a0_0 a0_1 a0_2 now t (pks Ls) := ⟨_, rfl⟩
        have HKT := Aside0.mk (train_is a0_0 a0_1 a0_2 now t (pks Ls) (by have := HLB.out; simp [pks]; omega) kp (by have := HLB.out; simp [pks]; omega))
        rw [← hY] at HKT
        have HY := Aside0.mk hY
        clear hY hkp
        obtain ⟨y1, y2, y3, y4, ys, y6⟩ := Y
        have p9 : (0 ≤ now) = True := eq_true (by have := HJ.out; omega)
        have q9 : (now < (len : Int)) = True := eq_true (by have := HJ.out; have := HLEN.out; omega)
        have HE3 := Aside0.mk HI.out.hN
        replace HI := Aside0.mk (RI.drew HI.out)
        replace BR := Aside0.mk (blk_drew BR.out)
        replace BF := Aside0.mk (blk_drew BF.out)
        replace BT := Aside0.mk (blk_drew BT.out)
        replace BN := Aside0.mk (blk_drew BN.out)
        replace BX := Aside0.mk (blk_drew BX.out)
        replace BY := Aside0.mk (blk_drew BY.out)
        replace B19 := Aside0.mk (blk_drew B19.out)
        replace HLC := Aside0.mk (Kd.C_drew HLC.out)
        have HHW := HH
        refine start_ (n := 12) (S := fun w' => w'.cell? ⟨gr, 0, none⟩ = some (.int .i64 a0_0) ∧ w'.cell? ⟨gr, 1, none⟩ = some (.int .i64 a0_1) ∧ w'.cell? ⟨gr, 2, none⟩ = some (.int .i64 a0_2) ∧ w'.cell? ⟨gy, 0, none⟩ = some (.int .i64 t.f0) ∧ w'.cell? ⟨gy, 1, none⟩ = some (.int .i64 t.f1) ∧ w'.cell? ⟨gy, 2, none⟩ = some (.int .i64 t.f2) ∧ w'.cell? ⟨gT, now.toNat, none⟩ = some (.slice A0 Ls.length c0)) (ds := [11]) #[false, false, false, false, false, false, false, false, false, false, false, false] (by kernel_rfl) rfl rfl ⟨b0 BR, b1 BR, b2 BR, b0 BY, b1 BY, b2 BY, HH.out⟩ (fun hHeld => ?_)
        replace HH := Aside0.mk (show wh.drew.cell? ⟨gT, now.toNat, none⟩ = some (.slice A0 Ls.length c0) from HHW.out)
        clear HHW HE3
        generalize wh.drew = wi at HI BR BF BT BN BX BY B19 HLC HH  hHeld ⊢
        refine takeA 0 81 #[true, false, false, false, false, false, false, false, false, false, false, false] (by kernel_rfl) hHeld ?_
        refine pureA 1 82 #[true, true, false, false, false, false, false, false, false, false, false, false] (by kernel_rfl) ?_
        refine takeA 2 83 #[true, true, true, false, false, false, false, false, false, false, false, false] (by kernel_rfl) hHeld ?_
        refine pureA 3 84 #[true, true, true, true, false, false, false, false, false, false, false, false] (by kernel_rfl) ?_
        refine pureA 4 85 #[true, true, true, true, true, false, false, false, false, false, false, false] (by kernel_rfl) ?_
        refine pureA 5 86 #[true, true, true, true, true, true, false, false, false, false, false, false] (by kernel_rfl) ?_
        refine pureA 6 87 #[true, true, true, true, true, true, true, false, false, false, false, false] (by kernel_rfl) ?_
        refine takeA 7 88 #[true, true, true, true, true, true, true, true, false, false, false, false] (by kernel_rfl) hHeld ?_
        clear p9 q9 hHeld
        refine join_ (σ := Value × Value × Nat) 1 #[true, true, true, true, true, true, true, true, true, true, true, false] (fun s_ => [(89, s_.1), (90, (.agg #[.bool y1, .int .i64 y2, .int .i64 y3, .int .i64 y4, s_.2.1, .int .i64 y6])), (20, .pointer (some ⟨s_.2.2, 0, none⟩))]) (fun s_ w' => (fun w' => w'.cell? ⟨gr, 0, none⟩ = some (.int .i64 a0_0) ∧ w'.cell? ⟨gr, 1, none⟩ = some (.int .i64 a0_1) ∧ w'.cell? ⟨gr, 2, none⟩ = some (.int .i64 a0_2) ∧ w'.cell? ⟨gy, 0, none⟩ = some (.int .i64 t.f0) ∧ w'.cell? ⟨gy, 1, none⟩ = some (.int .i64 t.f1) ∧ w'.cell? ⟨gy, 2, none⟩ = some (.int .i64 t.f2) ∧ w'.cell? ⟨gT, now.toNat, none⟩ = some (.slice A0 Ls.length c0)) w' ∧ RI w w' N1 ex1 okB okT1 okO gB cB gT cT len rB rT1 u14 out ∧ w'.heap[gr]? = some (.cells #[.int .i64 a0_0, .int .i64 a0_1, .int .i64 a0_2] 34 (0, 0)) ∧ w'.heap[gf]? = some (.cells #[.slice A2 l2.length c2] 65 (0, 0)) ∧ w'.heap[gt]? = some (.cells #[.int .i64 a3] 3 (0, 0)) ∧ w'.heap[gn]? = some (.cells #[.int .i64 n1] 3 (0, 0)) ∧ w'.heap[gx]? = some (.cells #[.int .i64 x2, .int .i64 x3, .int .i64 x4, .int .i64 x5, .int .i64 x6] 29 (0, 0)) ∧ w'.heap[gy]? = some (.cells #[.int .i64 t.f0, .int .i64 t.f1, .int .i64 t.f2] 48 (0, 0)) ∧ w'.heap[g19]? = some (.cells #[.bool true, .int .i64 x2, .int .i64 x3, .int .i64 x4, .int .i64 x5, .int .i64 x6, .slice A6 xs.length c6] 32 (0, 0)) ∧ Kd.R k60 60 w' w.heap.size (fun k => N1 ≤ k ∧ k ≠ s_.2.2) s_.2.1 ys ∧ w'.heap[s_.2.2]? = some (.cells #[.bool false, .int .i64 0, .int .i64 0, .int .i64 0, .slice none 0 0, .int .i64 0] 50 (0, 0)) ∧ N1 ≤ s_.2.2 ) ?_ ?_
        rotate_left
        ·intro hCont
         refine two_ (i := 8) (j := 10) (Ni := some 89) (Nj := some 20) #[true, true, true, true, true, true, true, true, true, false, false, false] #[true, true, true, true, true, true, true, true, false, false, true, false] rfl rfl rfl rfl (by kernel_rfl) (by decide) (by decide) (fun K hK => ?_) (fun K hK => ?_)
         ·skip
          refine call_ 86 #[.slice A0 Ls.length c0] (by rfl) rfl ?_ ?_
          ·have he := enters_ Try.func86 (by kernel_rfl) rfl #[.slice A0 Ls.length c0] (wi)
           unfold execOp
           simp [resolve, Deferred.ofValue, invoke, Act.eval, he]
          refine (impl_RunPk.calls kp A0 c0 Ls (pks Ls) _ HLC.out HLE.out HKP.out).mono ?_
          rintro e w11_p ⟨v88, rfl, hp, hb⟩
          refine ⟨_, rfl, ?_⟩
          have HP := Aside0.mk hp
          replace HI := Aside0.mk (RI.go HI.out hb); replace BR := bkb BR hb; replace BF := bkb BF hb; replace BT := bkb BT hb; replace BN := bkb BN hb; replace BX := bkb BX hb; replace BY := bkb BY hb; replace B19 := bkb B19 hb; replace HH := Aside0.mk ((hb.cell (World.block_lt_of_cell? _ _ HH.out)).trans HH.out); replace HLC := Aside0.mk (Kd.C_below HLC.out hb)
          clear hp hb
          obtain ⟨Ap, cp, hvp⟩ := Kd.R_slice HP.out
          subst hvp
          refine hK.out _ _ ⟨b0 BR, b1 BR, b2 BR, b0 BY, b1 BY, b2 BY, HH.out⟩ (fun hHeld => ?_)
          clear hK K hHeld
          refine normP ?_
          refine two_ (i := 9) (j := 10) (Ni := some 90) (Nj := some 20) #[true, true, true, true, true, true, true, true, true, true, false, false] #[true, true, true, true, true, true, true, true, true, false, true, false] rfl rfl rfl rfl (by kernel_rfl) (by decide) (by decide) (fun K hK => ?_) (fun K hK => ?_)
          ·skip
           have hrp := Kd.R_reads' HP.out
           refine goesA Try.func27 #[.agg #[.int .i64 a0_0, .int .i64 a0_1, .int .i64 a0_2], .int .i64 now, .agg #[.int .i64 t.f0, .int .i64 t.f1, .int .i64 t.f2], .slice Ap (pks Ls).length cp] ?_
           refine (impl_TrainTick.calls kp a0_0 a0_1 a0_2 now t.f0 t.f1 t.f2 Ap cp (pks Ls) y1 y2 y3 y4 ys y6 _ hrp.2.2 hrp.2.1 HKT.out).mono ?_
           rintro e w12_pc ⟨v5, rfl, h5, hb⟩
           refine ⟨_, rfl, ?_⟩
           have hbN : N1 ≤ w11_p.heap.size := HI.out.hN
           have hbw : w.heap.size ≤ w11_p.heap.size := HI.out.size
           have H5 : Aside0 (Kd.R k60 60 w12_pc w.heap.size (fun k => N1 ≤ k) v5 ys) := ⟨Kd.R_lower (Kd.R_mono (Kd.R_bound h5) (fun k hk => Nat.le_trans hbN hk.2.1)) hbw⟩
           replace HI := Aside0.mk (RI.go HI.out hb); replace BR := bkb BR hb; replace BF := bkb BF hb; replace BT := bkb BT hb; replace BN := bkb BN hb; replace BX := bkb BX hb; replace BY := bkb BY hb; replace B19 := bkb B19 hb; replace HH := Aside0.mk ((hb.cell (World.block_lt_of_cell? _ _ HH.out)).trans HH.out); replace HLC := Aside0.mk (Kd.C_below HLC.out hb)
           clear h5 hb hbN hbw hrp HP
           refine hK.out _ _ ⟨b0 BR, b1 BR, b2 BR, b0 BY, b1 BY, b2 BY, HH.out⟩ (fun hHeld => ?_)
           clear hK K hHeld
           refine normP ?_
           refine one_ (i := 10) (N := some 20) #[true, true, true, true, true, true, true, true, true, true, true, false] rfl rfl (by kernel_rfl) (by decide) (fun K hK => ?_)
           refine event_step (w1 := w12_pc.alloc (.cells #[.bool false, .int .i64 0, .int .i64 0, .int .i64 0, .slice none 0 0, .int .i64 0] 50)) (v := .pointer (some ⟨w12_pc.heap.size, 0, none⟩)) (by rfl) (by first | (go_simp; done) | (go_simp; rfl)) ?_
           have hb := below_alloc (Below.refl w12_pc.heap.size w12_pc) (.cells #[.bool false, .int .i64 0, .int .i64 0, .int .i64 0, .slice none 0 0, .int .i64 0] 50)
           have HG3 := Aside0.mk (blk_new w12_pc (.cells #[.bool false, .int .i64 0, .int .i64 0, .int .i64 0, .slice none 0 0, .int .i64 0] 50))
           have NG3 := Aside0.mk HI.out.hN
           have H5' : Aside0 (Kd.R k60 60 w12_pc w.heap.size (fun k => N1 ≤ k ∧ k ≠ w12_pc.heap.size) v5 ys) := ⟨Kd.R_elderB H5.out _ (Nat.le_refl _)⟩
           clear H5
           have H5 := H5'
           clear H5'
           replace HI := Aside0.mk (RI.go HI.out hb); replace BR := bkb BR hb; replace BF := bkb BF hb; replace BT := bkb BT hb; replace BN := bkb BN hb; replace BX := bkb BX hb; replace BY := bkb BY hb; replace B19 := bkb B19 hb; replace HH := Aside0.mk ((hb.cell (World.block_lt_of_cell? _ _ HH.out)).trans HH.out); replace HLC := Aside0.mk (Kd.C_below HLC.out hb); replace H5 := Aside0.mk (Kd.R_below H5.out hb)
           clear hb
           generalize w12_pc.alloc (.cells #[.bool false, .int .i64 0, .int .i64 0, .int .i64 0, .slice none 0 0, .int .i64 0] 50) = w13_cpa at HI BR BF BT BN BX BY B19 HH HLC HG3 H5 ⊢
           obtain ⟨g20, hg20⟩ : ∃ x, x = w12_pc.heap.size := ⟨_, rfl⟩
           rw [← hg20] at HG3 NG3 H5 ⊢
           clear hg20
           refine hK.out _ _ ⟨b0 BR, b1 BR, b2 BR, b0 BY, b1 BY, b2 BY, HH.out⟩ (fun hHeld => ?_)
           clear hK K hHeld
           refine norm_ (a' := ?_) ?_ ?_
           rotate_left
           ·show Act.put _ (some 20) _ = _
            simp only [Act.put, List.setIfInBounds_toArray, List.set_cons_zero, List.set_cons_succ, i64_w, i32_w]
            rfl
           exact norm_ (by simp only [putAll, Act.put, List.setIfInBounds_toArray, List.set_cons_zero, List.set_cons_succ]) (hCont (.slice Ap (pks Ls).length cp, v5, g20) _ ⟨⟨b0 BR, b1 BR, b2 BR, b0 BY, b1 BY, b2 BY, HH.out⟩, HI.out, BR.out, BF.out, BT.out, BN.out, BX.out, BY.out, B19.out, H5.out, HG3.out, NG3.out⟩)
          ·skip
           refine event_step (w1 := w11_p.alloc (.cells #[.bool false, .int .i64 0, .int .i64 0, .int .i64 0, .slice none 0 0, .int .i64 0] 50)) (v := .pointer (some ⟨w11_p.heap.size, 0, none⟩)) (by rfl) (by first | (go_simp; done) | (go_simp; rfl)) ?_
           have hb := below_alloc (Below.refl w11_p.heap.size w11_p) (.cells #[.bool false, .int .i64 0, .int .i64 0, .int .i64 0, .slice none 0 0, .int .i64 0] 50)
           have HG3 := Aside0.mk (blk_new w11_p (.cells #[.bool false, .int .i64 0, .int .i64 0, .int .i64 0, .slice none 0 0, .int .i64 0] 50))
           have NG3 := Aside0.mk HI.out.hN
           replace HI := Aside0.mk (RI.go HI.out hb); replace BR := bkb BR hb; replace BF := bkb BF hb; replace BT := bkb BT hb; replace BN := bkb BN hb; replace BX := bkb BX hb; replace BY := bkb BY hb; replace B19 := bkb B19 hb; replace HH := Aside0.mk ((hb.cell (World.block_lt_of_cell? _ _ HH.out)).trans HH.out); replace HLC := Aside0.mk (Kd.C_below HLC.out hb); replace HP := Aside0.mk (Kd.R_below HP.out hb)
           clear hb
           generalize w11_p.alloc (.cells #[.bool false, .int .i64 0, .int .i64 0, .int .i64 0, .slice none 0 0, .int .i64 0] 50) = w12_pa at HI BR BF BT BN BX BY B19 HH HLC HG3 HP ⊢
           obtain ⟨g20, hg20⟩ : ∃ x, x = w11_p.heap.size := ⟨_, rfl⟩
           rw [← hg20] at HG3 NG3 ⊢
           clear hg20
           refine hK.out _ _ ⟨b0 BR, b1 BR, b2 BR, b0 BY, b1 BY, b2 BY, HH.out⟩ (fun hHeld => ?_)
           clear hK K hHeld
           refine norm_ (a' := ?_) ?_ ?_
           rotate_left
           ·show Act.put _ (some 20) _ = _
            simp only [Act.put, List.setIfInBounds_toArray, List.set_cons_zero, List.set_cons_succ, i64_w, i32_w]
            rfl
           refine one_ (i := 9) (N := some 90) #[true, true, true, true, true, true, true, true, true, true, true, false] rfl rfl (by kernel_rfl) (by decide) (fun K hK => ?_)
           have hrp := Kd.R_reads' HP.out
           refine goesA Try.func27 #[.agg #[.int .i64 a0_0, .int .i64 a0_1, .int .i64 a0_2], .int .i64 now, .agg #[.int .i64 t.f0, .int .i64 t.f1, .int .i64 t.f2], .slice Ap (pks Ls).length cp] ?_
           refine (impl_TrainTick.calls kp a0_0 a0_1 a0_2 now t.f0 t.f1 t.f2 Ap cp (pks Ls) y1 y2 y3 y4 ys y6 _ hrp.2.2 hrp.2.1 HKT.out).mono ?_
           rintro e w13_apc ⟨v5, rfl, h5, hb⟩
           refine ⟨_, rfl, ?_⟩
           have hbN : N1 ≤ w12_pa.heap.size := HI.out.hN
           have hbw : w.heap.size ≤ w12_pa.heap.size := HI.out.size
           have hgl := blk_lt HG3.out
           have H5 : Aside0 (Kd.R k60 60 w13_apc w.heap.size (fun k => N1 ≤ k ∧ k ≠ g20) v5 ys) := ⟨Kd.R_lower (Kd.R_mono (Kd.R_bound h5) (fun k hk => ⟨Nat.le_trans hbN hk.2.1, by have := hk.2.1; omega⟩)) hbw⟩
           clear hgl
           replace HI := Aside0.mk (RI.go HI.out hb); replace BR := bkb BR hb; replace BF := bkb BF hb; replace BT := bkb BT hb; replace BN := bkb BN hb; replace BX := bkb BX hb; replace BY := bkb BY hb; replace B19 := bkb B19 hb; replace HH := Aside0.mk ((hb.cell (World.block_lt_of_cell? _ _ HH.out)).trans HH.out); replace HLC := Aside0.mk (Kd.C_below HLC.out hb); replace HG3 := bkb HG3 hb
           clear h5 hb hbN hbw hrp HP
           refine hK.out _ _ ⟨b0 BR, b1 BR, b2 BR, b0 BY, b1 BY, b2 BY, HH.out⟩ (fun hHeld => ?_)
           clear hK K hHeld
           refine normP ?_
           exact norm_ (by simp only [putAll, Act.put, List.setIfInBounds_toArray, List.set_cons_zero, List.set_cons_succ]) (hCont (.slice Ap (pks Ls).length cp, v5, g20) _ ⟨⟨b0 BR, b1 BR, b2 BR, b0 BY, b1 BY, b2 BY, HH.out⟩, HI.out, BR.out, BF.out, BT.out, BN.out, BX.out, BY.out, B19.out, H5.out, HG3.out, NG3.out⟩)
         ·skip
          refine event_step (w1 := wi.alloc (.cells #[.bool false, .int .i64 0, .int .i64 0, .int .i64 0, .slice none 0 0, .int .i64 0] 50)) (v := .pointer (some ⟨wi.heap.size, 0, none⟩)) (by rfl) (by first | (go_simp; done) | (go_simp; rfl)) ?_
          have hb := below_alloc (Below.refl wi.heap.size wi) (.cells #[.bool false, .int .i64 0, .int .i64 0, .int .i64 0, .slice none 0 0, .int .i64 0] 50)
          have HG3 := Aside0.mk (blk_new wi (.cells #[.bool false, .int .i64 0, .int .i64 0, .int .i64 0, .slice none 0 0, .int .i64 0] 50))
          have NG3 := Aside0.mk HI.out.hN
          replace HI := Aside0.mk (RI.go HI.out hb); replace BR := bkb BR hb; replace BF := bkb BF hb; replace BT := bkb BT hb; replace BN := bkb BN hb; replace BX := bkb BX hb; replace BY := bkb BY hb; replace B19 := bkb B19 hb; replace HH := Aside0.mk ((hb.cell (World.block_lt_of_cell? _ _ HH.out)).trans HH.out); replace HLC := Aside0.mk (Kd.C_below HLC.out hb)
          clear hb
          generalize wi.alloc (.cells #[.bool false, .int .i64 0, .int .i64 0, .int .i64 0, .slice none 0 0, .int .i64 0] 50) = w11_a at HI BR BF BT BN BX BY B19 HH HLC HG3 ⊢
          obtain ⟨g20, hg20⟩ : ∃ x, x = wi.heap.size := ⟨_, rfl⟩
          rw [← hg20] at HG3 NG3 ⊢
          clear hg20
          refine hK.out _ _ ⟨b0 BR, b1 BR, b2 BR, b0 BY, b1 BY, b2 BY, HH.out⟩ (fun hHeld => ?_)
          clear hK K hHeld
          refine norm_ (a' := ?_) ?_ ?_
          rotate_left
          ·show Act.put _ (some 20) _ = _
           simp only [Act.put, List.setIfInBounds_toArray, List.set_cons_zero, List.set_cons_succ, i64_w, i32_w]
           rfl
          refine one_ (i := 8) (N := some 89) #[true, true, true, true, true, true, true, true, true, false, true, false] rfl rfl (by kernel_rfl) (by decide) (fun K hK => ?_)
          refine call_ 86 #[.slice A0 Ls.length c0] (by rfl) rfl ?_ ?_
          ·have he := enters_ Try.func86 (by kernel_rfl) rfl #[.slice A0 Ls.length c0] (w11_a)
           unfold execOp
           simp [resolve, Deferred.ofValue, invoke, Act.eval, he]
          refine (impl_RunPk.calls kp A0 c0 Ls (pks Ls) _ HLC.out HLE.out HKP.out).mono ?_
          rintro e w12_ap ⟨v88, rfl, hp, hb⟩
          refine ⟨_, rfl, ?_⟩
          have HP := Aside0.mk hp
          replace HI := Aside0.mk (RI.go HI.out hb); replace BR := bkb BR hb; replace BF := bkb BF hb; replace BT := bkb BT hb; replace BN := bkb BN hb; replace BX := bkb BX hb; replace BY := bkb BY hb; replace B19 := bkb B19 hb; replace HH := Aside0.mk ((hb.cell (World.block_lt_of_cell? _ _ HH.out)).trans HH.out); replace HLC := Aside0.mk (Kd.C_below HLC.out hb); replace HG3 := bkb HG3 hb
          clear hp hb
          obtain ⟨Ap, cp, hvp⟩ := Kd.R_slice HP.out
          subst hvp
          refine hK.out _ _ ⟨b0 BR, b1 BR, b2 BR, b0 BY, b1 BY, b2 BY, HH.out⟩ (fun hHeld => ?_)
          clear hK K hHeld
          refine normP ?_
          refine one_ (i := 9) (N := some 90) #[true, true, true, true, true, true, true, true, true, true, true, false] rfl rfl (by kernel_rfl) (by decide) (fun K hK => ?_)
          have hrp := Kd.R_reads' HP.out
          refine goesA Try.func27 #[.agg #[.int .i64 a0_0, .int .i64 a0_1, .int .i64 a0_2], .int .i64 now, .agg #[.int .i64 t.f0, .int .i64 t.f1, .int .i64 t.f2], .slice Ap (pks Ls).length cp] ?_
          refine (impl_TrainTick.calls kp a0_0 a0_1 a0_2 now t.f0 t.f1 t.f2 Ap cp (pks Ls) y1 y2 y3 y4 ys y6 _ hrp.2.2 hrp.2.1 HKT.out).mono ?_
          rintro e w13_apc ⟨v5, rfl, h5, hb⟩
          refine ⟨_, rfl, ?_⟩
          have hbN : N1 ≤ w12_ap.heap.size := HI.out.hN
          have hbw : w.heap.size ≤ w12_ap.heap.size := HI.out.size
          have hgl := blk_lt HG3.out
          have H5 : Aside0 (Kd.R k60 60 w13_apc w.heap.size (fun k => N1 ≤ k ∧ k ≠ g20) v5 ys) := ⟨Kd.R_lower (Kd.R_mono (Kd.R_bound h5) (fun k hk => ⟨Nat.le_trans hbN hk.2.1, by have := hk.2.1; omega⟩)) hbw⟩
          clear hgl
          replace HI := Aside0.mk (RI.go HI.out hb); replace BR := bkb BR hb; replace BF := bkb BF hb; replace BT := bkb BT hb; replace BN := bkb BN hb; replace BX := bkb BX hb; replace BY := bkb BY hb; replace B19 := bkb B19 hb; replace HH := Aside0.mk ((hb.cell (World.block_lt_of_cell? _ _ HH.out)).trans HH.out); replace HLC := Aside0.mk (Kd.C_below HLC.out hb); replace HG3 := bkb HG3 hb
          clear h5 hb hbN hbw hrp HP
          refine hK.out _ _ ⟨b0 BR, b1 BR, b2 BR, b0 BY, b1 BY, b2 BY, HH.out⟩ (fun hHeld => ?_)
          clear hK K hHeld
          refine normP ?_
          exact norm_ (by simp only [putAll, Act.put, List.setIfInBounds_toArray, List.set_cons_zero, List.set_cons_succ]) (hCont (.slice Ap (pks Ls).length cp, v5, g20) _ ⟨⟨b0 BR, b1 BR, b2 BR, b0 BY, b1 BY, b2 BY, HH.out⟩, HI.out, BR.out, BF.out, BT.out, BN.out, BX.out, BY.out, B19.out, H5.out, HG3.out, NG3.out⟩)
        rintro ⟨v88, v5, g20⟩ wj ⟨hHeld, HI2, hBR, hBF, hBT, hBN, hBX, hBY, hB19, H5, HG3, NG3⟩
        clear HI BR BF BT BN BX BY B19 HH HLC HKT hHeld
        have HI := Aside0.mk HI2
        have BR := Aside0.mk hBR
        have BF := Aside0.mk hBF
        have BT := Aside0.mk hBT
        have BN := Aside0.mk hBN
        have BX := Aside0.mk hBX
        have BY := Aside0.mk hBY
        have B19 := Aside0.mk hB19
        replace H5 : Aside0 (Kd.R k60 60 wj w.heap.size (fun k => N1 ≤ k ∧ k ≠ g20) v5 ys) := ⟨H5⟩
        replace HG3 : Aside0 (wj.heap[g20]? = some (.cells #[.bool false, .int .i64 0, .int .i64 0, .int .i64 0, .slice none 0 0, .int .i64 0] 50 (0, 0))) := ⟨HG3⟩
        replace NG3 : Aside0 (N1 ≤ g20) := ⟨NG3⟩
        clear HI2 hBR hBF hBT hBN hBX hBY hB19
        refine normA ?_
        refine last_ (i := 11) (N := none) #[true, true, true, true, true, true, true, true, true, true, true, true] rfl rfl (by kernel_rfl) (by decide) (fun K hK => ?_)
        have k0 := b0 HG3; have z0 := blk_frozen HG3.out 0
        have k1 := b1 HG3; have z1 := blk_frozen HG3.out 1
        have k2 := b2 HG3; have z2 := blk_frozen HG3.out 2
        have k3 := b3 HG3; have z3 := blk_frozen HG3.out 3
        have k4 := b4 HG3; have z4 := blk_frozen HG3.out 4
        have k5 := b5 HG3; have z5 := blk_frozen HG3.out 5
        obtain ⟨A5, c5, hv5⟩ := Kd.R_slice H5.out
        refine skip_ (w1 := ((((((wj.setCell ⟨g20, 0, none⟩ (.bool y1)).setCell ⟨g20, 1, none⟩ (.int .i64 y2)).setCell ⟨g20, 2, none⟩ (.int .i64 y3)).setCell ⟨g20, 3, none⟩ (.int .i64 y4)).setCell ⟨g20, 4, none⟩ (v5)).setCell ⟨g20, 5, none⟩ (.int .i64 y6))) (by rfl) rfl (by subst hv5; first | (go_simp; done) | (go_simp; rfl)) ?_
        clear z0 z1 z2 z3 z4 z5
        have hneBR : gr ≠ g20 := fun h => by have := LR.out; have := NG3.out; omega
        have hneBF : gf ≠ g20 := fun h => by have := LF.out; have := NG3.out; omega
        have hneBT : gt ≠ g20 := fun h => by have := LT.out; have := NG3.out; omega
        have hneBN : gn ≠ g20 := fun h => by have := LN.out; have := NG3.out; omega
        have hneBX : gx ≠ g20 := fun h => by have := LX.out; have := NG3.out; omega
        have hneBY : gy ≠ g20 := fun h => by have := LY.out; have := NG3.out; omega
        have hneB19 : g19 ≠ g20 := fun h => by have := L19.out; have := NG3.out; omega
        replace HI := Aside0.mk (RI.set (j := 5) (RI.set (j := 4) (RI.set (j := 3) (RI.set (j := 2) (RI.set (j := 1) (RI.set (j := 0) (HI.out) (.inr NG3.out) (.bool y1)) (.inr NG3.out) (.int .i64 y2)) (.inr NG3.out) (.int .i64 y3)) (.inr NG3.out) (.int .i64 y4)) (.inr NG3.out) (v5)) (.inr NG3.out) (.int .i64 y6))
        replace BR := Aside0.mk (blk_far (p := ⟨g20, 5, none⟩) (blk_far (p := ⟨g20, 4, none⟩) (blk_far (p := ⟨g20, 3, none⟩) (blk_far (p := ⟨g20, 2, none⟩) (blk_far (p := ⟨g20, 1, none⟩) (blk_far (p := ⟨g20, 0, none⟩) (BR.out) (hneBR) (.bool y1)) (hneBR) (.int .i64 y2)) (hneBR) (.int .i64 y3)) (hneBR) (.int .i64 y4)) (hneBR) (v5)) (hneBR) (.int .i64 y6))
        replace BF := Aside0.mk (blk_far (p := ⟨g20, 5, none⟩) (blk_far (p := ⟨g20, 4, none⟩) (blk_far (p := ⟨g20, 3, none⟩) (blk_far (p := ⟨g20, 2, none⟩) (blk_far (p := ⟨g20, 1, none⟩) (blk_far (p := ⟨g20, 0, none⟩) (BF.out) (hneBF) (.bool y1)) (hneBF) (.int .i64 y2)) (hneBF) (.int .i64 y3)) (hneBF) (.int .i64 y4)) (hneBF) (v5)) (hneBF) (.int .i64 y6))
        replace BT := Aside0.mk (blk_far (p := ⟨g20, 5, none⟩) (blk_far (p := ⟨g20, 4, none⟩) (blk_far (p := ⟨g20, 3, none⟩) (blk_far (p := ⟨g20, 2, none⟩) (blk_far (p := ⟨g20, 1, none⟩) (blk_far (p := ⟨g20, 0, none⟩) (BT.out) (hneBT) (.bool y1)) (hneBT) (.int .i64 y2)) (hneBT) (.int .i64 y3)) (hneBT) (.int .i64 y4)) (hneBT) (v5)) (hneBT) (.int .i64 y6))
        replace BN := Aside0.mk (blk_far (p := ⟨g20, 5, none⟩) (blk_far (p := ⟨g20, 4, none⟩) (blk_far (p := ⟨g20, 3, none⟩) (blk_far (p := ⟨g20, 2, none⟩) (blk_far (p := ⟨g20, 1, none⟩) (blk_far (p := ⟨g20, 0, none⟩) (BN.out) (hneBN) (.bool y1)) (hneBN) (.int .i64 y2)) (hneBN) (.int .i64 y3)) (hneBN) (.int .i64 y4)) (hneBN) (v5)) (hneBN) (.int .i64 y6))
        replace BX := Aside0.mk (blk_far (p := ⟨g20, 5, none⟩) (blk_far (p := ⟨g20, 4, none⟩) (blk_far (p := ⟨g20, 3, none⟩) (blk_far (p := ⟨g20, 2, none⟩) (blk_far (p := ⟨g20, 1, none⟩) (blk_far (p := ⟨g20, 0, none⟩) (BX.out) (hneBX) (.bool y1)) (hneBX) (.int .i64 y2)) (hneBX) (.int .i64 y3)) (hneBX) (.int .i64 y4)) (hneBX) (v5)) (hneBX) (.int .i64 y6))
        replace BY := Aside0.mk (blk_far (p := ⟨g20, 5, none⟩) (blk_far (p := ⟨g20, 4, none⟩) (blk_far (p := ⟨g20, 3, none⟩) (blk_far (p := ⟨g20, 2, none⟩) (blk_far (p := ⟨g20, 1, none⟩) (blk_far (p := ⟨g20, 0, none⟩) (BY.out) (hneBY) (.bool y1)) (hneBY) (.int .i64 y2)) (hneBY) (.int .i64 y3)) (hneBY) (.int .i64 y4)) (hneBY) (v5)) (hneBY) (.int .i64 y6))
        replace B19 := Aside0.mk (blk_far (p := ⟨g20, 5, none⟩) (blk_far (p := ⟨g20, 4, none⟩) (blk_far (p := ⟨g20, 3, none⟩) (blk_far (p := ⟨g20, 2, none⟩) (blk_far (p := ⟨g20, 1, none⟩) (blk_far (p := ⟨g20, 0, none⟩) (B19.out) (hneB19) (.bool y1)) (hneB19) (.int .i64 y2)) (hneB19) (.int .i64 y3)) (hneB19) (.int .i64 y4)) (hneB19) (v5)) (hneB19) (.int .i64 y6))
        replace HG3 := Aside0.mk (blk_put (cs := #[.bool y1, .int .i64 y2, .int .i64 y3, .int .i64 y4, v5, .int .i64 0]) (cs' := #[.bool y1, .int .i64 y2, .int .i64 y3, .int .i64 y4, v5, .int .i64 y6]) (blk_put (cs := #[.bool y1, .int .i64 y2, .int .i64 y3, .int .i64 y4, .slice none 0 0, .int .i64 0]) (cs' := #[.bool y1, .int .i64 y2, .int .i64 y3, .int .i64 y4, v5, .int .i64 0]) (blk_put (cs := #[.bool y1, .int .i64 y2, .int .i64 y3, .int .i64 0, .slice none 0 0, .int .i64 0]) (cs' := #[.bool y1, .int .i64 y2, .int .i64 y3, .int .i64 y4, .slice none 0 0, .int .i64 0]) (blk_put (cs := #[.bool y1, .int .i64 y2, .int .i64 0, .int .i64 0, .slice none 0 0, .int .i64 0]) (cs' := #[.bool y1, .int .i64 y2, .int .i64 y3, .int .i64 0, .slice none 0 0, .int .i64 0]) (blk_put (cs := #[.bool y1, .int .i64 0, .int .i64 0, .int .i64 0, .slice none 0 0, .int .i64 0]) (cs' := #[.bool y1, .int .i64 y2, .int .i64 0, .int .i64 0, .slice none 0 0, .int .i64 0]) (blk_put (cs := #[.bool false, .int .i64 0, .int .i64 0, .int .i64 0, .slice none 0 0, .int .i64 0]) (cs' := #[.bool y1, .int .i64 0, .int .i64 0, .int .i64 0, .slice none 0 0, .int .i64 0]) (HG3.out) 0 (.bool y1) rfl) 1 (.int .i64 y2) rfl) 2 (.int .i64 y3) rfl) 3 (.int .i64 y4) rfl) 4 (v5) rfl) 5 (.int .i64 y6) rfl)
        replace H5 := Aside0.mk (Kd.R_far (p := ⟨g20, 5, none⟩) (Kd.R_far (p := ⟨g20, 4, none⟩) (Kd.R_far (p := ⟨g20, 3, none⟩) (Kd.R_far (p := ⟨g20, 2, none⟩) (Kd.R_far (p := ⟨g20, 1, none⟩) (Kd.R_far (p := ⟨g20, 0, none⟩) (H5.out) ((fun _ h => h.2)) (.bool y1)) ((fun _ h => h.2)) (.int .i64 y2)) ((fun _ h => h.2)) (.int .i64 y3)) ((fun _ h => h.2)) (.int .i64 y4)) ((fun _ h => h.2)) (v5)) ((fun _ h => h.2)) (.int .i64 y6))
        generalize ((((((wj.setCell ⟨g20, 0, none⟩ (.bool y1)).setCell ⟨g20, 1, none⟩ (.int .i64 y2)).setCell ⟨g20, 2, none⟩ (.int .i64 y3)).setCell ⟨g20, 3, none⟩ (.int .i64 y4)).setCell ⟨g20, 4, none⟩ (v5)).setCell ⟨g20, 5, none⟩ (.int .i64 y6)) = wk at HI BR BF BT BN BX BY B19 HG3 H5 ⊢
        clear hneBR hneBF hneBT hneBN hneBX hneBY hneB19 k0 k1 k2 k3 k4 k5
        refine hK.out _ _ ?_
        clear hK K
        refine done_ (by kernel_rfl) ?_
        have k0 := b0 HG3; have k1q := b1 HG3; have k2 := b2 HG3; have k3 := b3 HG3
        cases y1 with
        | false =>
         have hr : ([] : List S86) = r := by rw [← HA.out]; exact (run_train HXX.out (by rw [← HRT.out, ← HLs.out]; exact HY.out.symm)).symm
         clear hv5
         go_wp2
         go_ret
         exact ⟨_, rfl, by rw [← hr]; exact Kd.R_nil _ _ _ _ _, HI.out.below⟩
        | true =>
         have HYL := Aside0.mk (train_sent HY.out)
         have HYY : Aside0 (trainF a0_0 a0_1 a0_2 now t (pks ((sendL l2 now a3 xs n rT).1.getD now.toNat [])) = (true, y2, y3, y4, ys, y6)) := ⟨by rw [← HRT.out, ← HLs.out]; exact HY.out.symm⟩
         have u0 := b0 BY; have u1 := b1 BY; have u2 := b2 BY; have e0 := blk_frozen BY.out 0; have e1 := blk_frozen BY.out 1; have e2 := blk_frozen BY.out 2
         clear hv5
         have hnx1 : g20 ≠ gy := fun h => by have := LY.out; have := NG3.out; omega
         go_upto_region 27 with (fail)
         clear u0 u1 u2 e0 e1 e2 k0 k1q k2 k3
         have hne1 : ∀ k, N1 ≤ k ∧ k ≠ g20 → k ≠ gy := fun k hk h => by have := LY.out; have := hk.1; omega
         replace HI := Aside0.mk (RI.set (j := 2) (RI.set (j := 1) (RI.set (j := 0) (HI.out) (.inl XY.out) (.int .i64 y2)) (.inl XY.out) (.int .i64 y3)) (.inl XY.out) (.int .i64 y4))
         replace BR := Aside0.mk (blk_far (p := ⟨gy, 2, none⟩) (blk_far (p := ⟨gy, 1, none⟩) (blk_far (p := ⟨gy, 0, none⟩) (BR.out) (NRY.out) (.int .i64 y2)) (NRY.out) (.int .i64 y3)) (NRY.out) (.int .i64 y4))
         replace BF := Aside0.mk (blk_far (p := ⟨gy, 2, none⟩) (blk_far (p := ⟨gy, 1, none⟩) (blk_far (p := ⟨gy, 0, none⟩) (BF.out) (NFY.out) (.int .i64 y2)) (NFY.out) (.int .i64 y3)) (NFY.out) (.int .i64 y4))
         replace BT := Aside0.mk (blk_far (p := ⟨gy, 2, none⟩) (blk_far (p := ⟨gy, 1, none⟩) (blk_far (p := ⟨gy, 0, none⟩) (BT.out) (NTY.out) (.int .i64 y2)) (NTY.out) (.int .i64 y3)) (NTY.out) (.int .i64 y4))
         replace BN := Aside0.mk (blk_far (p := ⟨gy, 2, none⟩) (blk_far (p := ⟨gy, 1, none⟩) (blk_far (p := ⟨gy, 0, none⟩) (BN.out) (NNY.out) (.int .i64 y2)) (NNY.out) (.int .i64 y3)) (NNY.out) (.int .i64 y4))
         replace BX := Aside0.mk (blk_far (p := ⟨gy, 2, none⟩) (blk_far (p := ⟨gy, 1, none⟩) (blk_far (p := ⟨gy, 0, none⟩) (BX.out) (NXY.out) (.int .i64 y2)) (NXY.out) (.int .i64 y3)) (NXY.out) (.int .i64 y4))
         replace B19 := Aside0.mk (blk_far (p := ⟨gy, 2, none⟩) (blk_far (p := ⟨gy, 1, none⟩) (blk_far (p := ⟨gy, 0, none⟩) (B19.out) (D19.out.2) (.int .i64 y2)) (D19.out.2) (.int .i64 y3)) (D19.out.2) (.int .i64 y4))
         replace HG3 := Aside0.mk (blk_far (p := ⟨gy, 2, none⟩) (blk_far (p := ⟨gy, 1, none⟩) (blk_far (p := ⟨gy, 0, none⟩) (HG3.out) (hnx1) (.int .i64 y2)) (hnx1) (.int .i64 y3)) (hnx1) (.int .i64 y4))
         replace BY := Aside0.mk (blk_put (cs := #[.int .i64 y2, .int .i64 y3, .int .i64 t.f2]) (cs' := #[.int .i64 y2, .int .i64 y3, .int .i64 y4]) (blk_put (cs := #[.int .i64 y2, .int .i64 t.f1, .int .i64 t.f2]) (cs' := #[.int .i64 y2, .int .i64 y3, .int .i64 t.f2]) (blk_put (cs := #[.int .i64 t.f0, .int .i64 t.f1, .int .i64 t.f2]) (cs' := #[.int .i64 y2, .int .i64 t.f1, .int .i64 t.f2]) (BY.out) 0 (.int .i64 y2) rfl) 1 (.int .i64 y3) rfl) 2 (.int .i64 y4) rfl)
         replace H5 := Aside0.mk (Kd.R_far (p := ⟨gy, 2, none⟩) (Kd.R_far (p := ⟨gy, 1, none⟩) (Kd.R_far (p := ⟨gy, 0, none⟩) (H5.out) (hne1) (.int .i64 y2)) (hne1) (.int .i64 y3)) (hne1) (.int .i64 y4))
         generalize (((wk.setCell ⟨gy, 0, none⟩ (.int .i64 y2)).setCell ⟨gy, 1, none⟩ (.int .i64 y3)).setCell ⟨gy, 2, none⟩ (.int .i64 y4)) = wl at HI BR BF BT BN BX B19 HG3 BY H5 ⊢
         clear hne1 hnx1
         obtain ⟨A5, c5, hv5⟩ := Kd.R_slice H5.out
         subst hv5
         have B20 := HG3
         clear HG3
         have NG := NG3
         have HE5 := Aside0.mk HI.out.hN
         have hrs := Kd.R_reads' H5.out
         have lBR := blk_lt BR.out
         have lBF := blk_lt BF.out
         have lBT := blk_lt BT.out
         have lBN := blk_lt BN.out
         have lBX := blk_lt BX.out
         have lBY := blk_lt BY.out
         have lB19 := blk_lt B19.out
         have lB20 := blk_lt B20.out
         have hos : ∀ g, ex1 g → g < wl.heap.size → ¬ (okB g ∨ wl.heap.size ≤ g) := fun g he hl h => h.elim (fun h => (HI.out.bB g h).2 he) (fun h => by omega)
         have hsend := send_calls w wl (fun k => okB k ∨ wl.heap.size ≤ k) (fun k => (N1 ≤ k ∧ k ≠ g20) ∧ k < wl.heap.size) gB cB rB now a3 A5 c5 ys gn gf gt n1 A2 c2 l2 50000 (by rw [HI.out.lB]; exact Kd.S_mono HI.out.hB (fun k hk => .inl hk)) (by rw [HI.out.lB]; have := HLEN.out; have := HG.out.t0; omega) (Kd.F_bound (Kd.R_F H5.out)) hrs.2.1 (fun k hk h => h.elim (fun h => by have := (HI.out.bB k h).1; have := hk.1; omega) (fun h => by have := hk.2; omega)) (fun k hk => .inr hk) BN.out BF.out BT.out GN.out (hos gn XN.out lBN) (hos gf XF.out lBF) (hos gt XT.out lBT) (fun h => by have := LN.out; have := h.1; omega) NFN.out NTN.out HR2.out HI.out.below (by have := HJ.out; omega) (by have := HJ.out; have := HG.out.t1; omega) HG.out.t1 (by have := HN1.out; have := HJ.out; omega) (by have := HN1.out; have := HJ.out; have := HXL.out; have := HYL.out; have := HG.out.t1; omega) (by have := HYL.out; omega) HG.out.fa (fun q hq => by have h1 := HJ.out.2.2.2.2.1 q hq; have := HG.out.n2; omega) (by have := HYL.out; omega)
         rw [HI.out.lB] at hsend
         have kv := b4 B20
         go_upto_region 28 with (first | ((with_reducible refine gate_dst (N := 101) rfl ?_); refine enterL (some 101) rfl 85 #[.slice (some ⟨gB, 0, none⟩) len cB, .int .i64 now, .slice A5 ys.length c5, .pointer (some ⟨gn, 0, none⟩), .pointer (some ⟨gf, 0, none⟩), .pointer (some ⟨gt, 0, none⟩)] rfl ?hrun ?_; (case hrun => have he := enters_ Try.func85 (by kernel_rfl) rfl #[.slice (some ⟨gB, 0, none⟩) len cB, .int .i64 now, .slice A5 ys.length c5, .pointer (some ⟨gn, 0, none⟩), .pointer (some ⟨gf, 0, none⟩), .pointer (some ⟨gt, 0, none⟩)] wl; unfold execOp; simp [resolve, Deferred.ofValue, invoke, Act.eval, he]); refine hsend.mono ?_; rintro e wm ⟨vv, rfl, hs, hn, hk, hb⟩; refine ⟨_, rfl, ?_⟩; clear hsend; have HI3 := RI.sentB HI.out hs hk XN.out hb (by rw [sendL_len]; exact HI.out.lB); replace B19 := Aside0.mk (blk_kept B19.out hk (fun h => h.elim (hos g19 X19.out lB19) D19.out.1)); replace BR := Aside0.mk (blk_kept BR.out hk (fun h => h.elim (hos gr XR.out lBR) (fun e => NRN.out e))); replace BF := Aside0.mk (blk_kept BF.out hk (fun h => h.elim (hos gf XF.out lBF) (fun e => NFN.out e))); replace BT := Aside0.mk (blk_kept BT.out hk (fun h => h.elim (hos gt XT.out lBT) (fun e => NTN.out e))); replace BX := Aside0.mk (blk_kept BX.out hk (fun h => h.elim (hos gx XX.out lBX) (fun e => NNX.out e.symm))); replace BY := Aside0.mk (blk_kept BY.out hk (fun h => h.elim (hos gy XY.out lBY) (fun e => NNY.out e.symm))); replace B20 := Aside0.mk (blk_kept B20.out hk (fun h => h.elim (fun h => h.elim (fun h => Nat.lt_irrefl _ (Nat.lt_of_lt_of_le (HI.out.bB g20 h).1 NG3.out)) (fun h => Nat.lt_irrefl _ (Nat.lt_of_lt_of_le lB20 h))) (fun e => Nat.lt_irrefl _ (Nat.lt_of_lt_of_le LN.out (e ▸ NG3.out))))); replace BN := Aside0.mk hn; clear HI; have HI := Aside0.mk HI3; clear HI3 hs hk hb hn kv))
         clear hrs hos lBR lBF lBT lBN lBX lBY lB19 lB20 HE5 H5
         have o0 := b0 BX; have o1 := b1 BX; have o2 := b2 BX; have o3 := b3 BX; have o4 := b4 BX; have o5 := b0 BY; have o6 := b1 BY; have o7 := b2 BY; have o8 := b6 B19; have o9 := b4 B20; have o10 := b5 B20
         have hwl : wrap64 ((xs.length : Int) + (ys.length : Int)) = (xs.length : Int) + (ys.length : Int) := Go.Proofs.Ytndffnacbfdnoaa.Plain.w64 (by omega) (by have := HXL.out; have := HYL.out; omega)
         have hwn : wrap64 (now + 1) = now + 1 := Go.Proofs.Ytndffnacbfdnoaa.Plain.w64 (by have := HJ.out; omega) (by have := HJ.out; have := HG.out.t1; omega)
         go_wp2_with (first | ((with_reducible refine gate_builtin (b := .append) (xs := #[.tmp 102, .tmp 115]) rfl ?_); at_builtin; refine Kd.R_append k86 (w0 := w) w.heap.size rfl (.tmp 102) (.tmp 115) 68 86 (.agg #[.int .i64 0, .int .i64 0, .int .i64 0, .int .i64 0, .int .i64 0, .int .i64 0, .int .i64 0, .int .i64 0, .int .i64 0, .int .i64 0]) 80 rfl Try.underlying68 (by kernel_rfl) rfl (by decide) (by decide) u14 out (⟨⟨x2, x3, x4, x5, x6⟩, ⟨y2, y3, y4⟩, (xs.length : Int) + (ys.length : Int), y6⟩ : S86) [.int .i64 x2, .int .i64 x3, .int .i64 x4, .int .i64 x5, .int .i64 x6, .int .i64 y2, .int .i64 y3, .int .i64 y4, .int .i64 ((xs.length : Int) + (ys.length : Int)), .int .i64 y6] (fun k => okO k ∨ wm.heap.size ≤ k) (fun _ => False) rfl (by first | (go_simp; done) | (go_simp; rfl)) (k86_mkM _ _ _ (⟨⟨x2, x3, x4, x5, x6⟩, ⟨y2, y3, y4⟩, (xs.length : Int) + (ys.length : Int), y6⟩ : S86)) (fun _ h => h.elim) (fun k hk => .inr hk) (Kd.R_mono HI.out.hO (fun k hk => .inl hk)) HI.out.below HI.out.size (by have := HJ.out; have := HG.out.t1; omega) ?_; intro v2 wn ho hb hg hat; have HI4 := RI.outs HI.out ho hg hb; replace BR := Aside0.mk (blk_grown BR.out hg (fun e => (HI.out.bO _ (HI.out.hO.1 _ e.symm)).2 (.inl XR.out))); replace BF := Aside0.mk (blk_grown BF.out hg (fun e => (HI.out.bO _ (HI.out.hO.1 _ e.symm)).2 (.inl XF.out))); replace BT := Aside0.mk (blk_grown BT.out hg (fun e => (HI.out.bO _ (HI.out.hO.1 _ e.symm)).2 (.inl XT.out))); replace BN := Aside0.mk (blk_grown BN.out hg (fun e => (HI.out.bO _ (HI.out.hO.1 _ e.symm)).2 (.inl XN.out))); replace BX := Aside0.mk (blk_grown BX.out hg (fun e => (HI.out.bO _ (HI.out.hO.1 _ e.symm)).2 (.inl XX.out))); replace BY := Aside0.mk (blk_grown BY.out hg (fun e => (HI.out.bO _ (HI.out.hO.1 _ e.symm)).2 (.inl XY.out))); clear HI; have HI := Aside0.mk HI4; clear HI4 ho hb hg hat))
         go_roundg k1
         case measure => omega
         case rel =>
          have hj := HJ.out
          have hx := HXL.out
          have hy := HYL.out
          have hn1 := HN1.out
          have hc := HC.out
          refine ⟨now + 1, ⟨x2, x3, x4, x5, x6⟩, ⟨y2, y3, y4⟩, _, rT1, _, s2, _, _, _, _, _, _, _, rfl, by rw [hwn], ⟨?_⟩, ⟨hc.1, hc.2.1, by omega⟩, ⟨by omega, by omega, ?_, ?_, ?_, ?_, ?_⟩, ⟨RI.less HI.out (fun k hk => .inl (.inl (HEX.out k hk)))⟩, BR, BF, BT, BN, BX, BY⟩
          ·rw [← HA.out, run_ok HXX.out HYY.out, ← HRT.out, ← HNN.out, ← HVS.out.2]
          ·rw [sendL_n]; omega
          ·rw [sendL_n]; omega
          ·intro q hq
           rw [sendL_n]
           exact sendL_mem l2 (fun f hf => (HG.out.fa f hf).1) now a3 ys n1 rB (by omega) (fun q hq => by have h1 := hj.2.2.2.2.1 q hq; omega) q hq
          ·intro q hq
           rw [sendL_n]
           have h1 := HT1.out q hq
           omega
          ·simp; omega
 ·rw [if_neg hg] at h
  exact absurd h (by simp)
end Go.Proofs.Ytndffnacbfdnoaa.PAll
