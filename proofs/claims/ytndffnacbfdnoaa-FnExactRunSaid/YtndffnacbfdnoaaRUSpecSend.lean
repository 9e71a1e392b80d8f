-- Lines of SpecSend that this claim uses.
import Derived.Test.YtndffnacbfdnoaaRUPks
namespace Go.Proofs.Ytndffnacbfdnoaa.PAll
open Go.RowKit Go.Proofs.YtndffnacbfdnoaaW.PrintWords Go.Proofs.YtndffnacbfdnoaaW.PrintLast Go.Proofs.YtndffnacbfdnoaaW.PrintMore Go.Proofs.Ytndffnacbfdnoaa.Plain
attribute [local go_sem] max2_int min2_int max_two min_two max_three min_three max_four min_four
set_option linter.unusedVariables false
set_option linter.unusedSimpArgs false
theorem R_apart {α : Type} {d : Kd α} {e base g : Nat} {W w1 : World} {ok : Nat → Prop} {v : Value} {xs : List α} (h : Kd.R d e W base ok v xs) (hg : g = W.heap.size) (hb : Below W.heap.size W w1) : Kd.R d e w1 base (fun k => ok k ∧ k ≠ g) v xs :=
 Kd.R_below (Kd.R_mono (Kd.R_bound h) (fun k hk => ⟨hk.1, by have := hk.2.2.1; omega⟩)) hb
theorem drop_int {f : List Int} {y : Int} (h0 : 0 ≤ y) (h : y < (f.length : Int)) : f.drop y.toNat = rd f y :: f.drop (y + 1).toNat := by
 have h1 : y.toNat < f.length := by omega
 rw [List.drop_eq_getElem_cons h1, show (y + 1).toNat = y.toNat + 1 by omega]
 simp [rd, List.getD_eq_getElem?_getD, h1]
theorem rd_in {f : List Int} {y : Int} (h0 : 0 ≤ y) (h : y < (f.length : Int)) : rd f y ∈ f := by
 have h1 : y.toNat < f.length := by omega
 rw [show rd f y = f[y.toNat] by simp [rd, List.getD_eq_getElem?_getD, h1]]
 exact List.getElem_mem h1
set_option maxHeartbeats 8000000 in
set_option maxRecDepth 100000 in
theorem specSendD (w0 w : World) (ok : Nat → Prop) (ga : Nat) (now : Int) (p : S60) (A2 : Option Addr) (c2 : Nat) (l2 : List (List Int)) (n : Int) (v2 v3 : Value) (l : List S146)
  (hk : p.f0 = 1) (hR : Kd.R k146 146 w w0.heap.size ok v2 l)
  (BA0 : w.heap[ga]? = some (.cells #[.slice A2 l2.length c2, .int .i64 n, v2, v3] 123 (0, 0)))
  (hga : w0.heap.size ≤ ga) (hoa : ¬ ok ga) (hs : ∃ A m c, v3 = .slice A m c)
  (h2 : Kd.C (Kd.slice 3 (Kd.int .i64)) w0 A2 l2.length l2) (hB : Below w0.heap.size w0 w)
  (hnow : 1 ≤ now) (hnow2 : now ≤ 2000) (hn0 : 0 ≤ n) (hn1 : n ≤ 1000000000)
  (hfa : ∀ f, f ∈ l2 → f.length ≤ 10 ∧ ∀ d, d ∈ f → 1 ≤ d ∧ d ≤ 1000) (hM : l.length ≤ 1000000) :
  Calls Try.prog 81 #[.pointer (some ⟨ga, 0, none⟩), .int .i64 now, .agg #[.int .i64 p.f0, .int .i64 p.f1, .int .i64 p.f2, .int .i64 p.f3]] w fun e w' => ∃ v_ vn, e = .returned v_ ∧
   Kd.R k146 146 w' w0.heap.size (fun k => ok k ∨ w.heap.size ≤ k) vn (sendD l2 now p n l) ∧ w'.heap[ga]? = some (.cells #[.slice A2 l2.length c2, .int .i64 (n + 1), vn, v3] 123 (0, 0)) ∧
   Kept w w' (fun k => ok k ∨ k = ga) ∧ Below w0.heap.size w0 w' := by
 have hu146 := Try.underlying146
 have HKIND := Aside0.mk hk
 clear hk
 obtain ⟨A9, m9, c9, hs⟩ := hs
 subst hs
 obtain ⟨A8, c8, hv8⟩ := Kd.R_slice hR
 subst hv8
 have BA := Aside0.mk BA0
 have HR := Aside0.mk hR
 have HB := Aside0.mk hB
 have HK := Aside0.mk (Kept.refl w (fun k => ok k ∨ k = ga))
 have hwn : wrap64 (n + 1) = n + 1 := w64 (by omega) (by omega)
 have a0 := b0 BA
 have a1 := b1 BA
 have a2_ := b2 BA
 have a3_ := b3 BA
 go_enter Try.func81, Try.ntmps81
 go_wp2_with (first | ((with_reducible refine gate_dst (N := 5) rfl ?_); refine boxA #[.int .i64 p.f0, .int .i64 p.f1, .int .i64 p.f2, .int .i64 p.f3] 60 ?_; intro gp hg w1 hbox hb; have NA := nlt BA hg; have GE : w.heap.size ≤ gp := Nat.le_of_eq hg.symm; have BP := Aside0.mk hbox; replace BA := bkb BA hb; replace HR := Aside0.mk (R_apart HR.out hg hb); replace HK := Aside0.mk (Kept.below HK.out hb); replace HB := bst HB hb; clear a0 a1 a2_ a3_; have a0 := b0 BA; have a1 := b1 BA; have a2_ := b2 BA; have a3_ := b3 BA; have c0 := b0 BP; have c1 := b1 BP; have c2_ := b2 BP; have c3 := b3 BP; clear hg hbox hb))
 by_cases hnf : n < (l2.length : Int)
 ·have c5 : decide (n < (l2.length : Int)) = true := decide_eq_true hnf
  obtain ⟨ad2, Af, cf2, e2, hy0, hyl, hyi⟩ := at_L5 h2 n hn0 hnf
  cases e2
  have hyb := World.block_lt_of_cell? w0 _ hy0
  have hy0w := (HB.out.cell hyb).trans hy0
  have p2 : (0 ≤ n) = True := eq_true hn0
  have q2 : (n < (l2.length : Int)) = True := eq_true hnf
  have HF := Aside0.mk (fate_of hfa hn0 hnf)
  clear hnf
  have HNF := Aside0.mk c5
  go_quiet (fail)
  go_wp2
  go_quiet (fail)
  go_wp2
  go_loopg [30] (rd_L5 l2 n).length (fun kq v30 w' => ∃ (y : Int) (vd : Value) (li : List S146), v30 = .int .i64 y ∧ Aside0 (li ++ fly now p ((rd_L5 l2 n).drop y.toNat) = l ++ fly now p (rd_L5 l2 n)) ∧ Aside0 (0 ≤ y ∧ y.toNat + kq = (rd_L5 l2 n).length ∧ li.length ≤ 1000000 + y.toNat) ∧ Aside0 (Kd.R k146 146 w' w0.heap.size (fun k => (ok k ∨ w.heap.size ≤ k) ∧ k ≠ gp) vd li) ∧
   Aside0 (w'.heap[ga]? = some (.cells #[.slice (some ad2) l2.length c2, .int .i64 n, vd, .slice A9 m9 c9] 123 (0, 0))) ∧ Aside0 (w'.heap[gp]? = some (.cells #[.int .i64 p.f0, .int .i64 p.f1, .int .i64 p.f2, .int .i64 p.f3] 60 (0, 0))) ∧ Aside0 (Kept w w' (fun k => ok k ∨ k = ga)) ∧ Aside0 (Below w0.heap.size w0 w'))
  case atStart => exact ⟨0, _, l, rfl, ⟨by simp⟩, ⟨by omega, by simp, by omega⟩, ⟨by (with_reducible repeat (first | apply Kd.R_drewN | apply Kd.R_drew)); exact Kd.R_mono HR.out (fun k hk => ⟨.inl hk.1, hk.2⟩)⟩, ⟨qb BA⟩, ⟨qb BP⟩, ⟨by (with_reducible repeat (first | apply Kept.drewN | apply Kept.drew)); exact HK.out⟩, ⟨by (with_reducible repeat (first | apply pw_below_drewN | apply below_drew1)); exact HB.out⟩⟩
  case round =>
   clear a0 a1 a2_ a3_ c0 c1 c2_ c3 HR HK HB BA BP hy0w hy0
   obtain ⟨y, vd, li, rfl, HA, HJ, HR, BA, BP, HK, HB⟩ := hrel
   obtain ⟨Ad, cd, hvd⟩ := Kd.R_slice HR.out
   subst hvd
   have a0 := b0 BA
   have a1 := b1 BA
   have a2_ := b2 BA
   have a3_ := b3 BA
   have c0 := b0 BP
   have c1 := b1 BP
   have c2_ := b2 BP
   have c3 := b3 BP
   have hfC := Kd.C_below hyi HB.out
   have LA := Aside0.mk (blk_lt BA0)
   by_cases hy : y < ((rd_L5 l2 n).length : Int)
   ·have h0y : 0 ≤ y := HJ.out.1
    obtain ⟨k2, rfl⟩ : ∃ k2, gk = k2 + 1 := ⟨gk - 1, by have := HJ.out; omega⟩
    have c6 : decide (y < ((rd_L5 l2 n).length : Int)) = true := decide_eq_true hy
    obtain ⟨ad3, e3, hd⟩ := Kd.at_int hfC y h0y hy
    cases e3
    have hdm := HF.out.2 _ (rd_in h0y hy)
    have hwd : wrap64 (now + rd (rd_L5 l2 n) y) = now + rd (rd_L5 l2 n) y := w64 (by omega) (by omega)
    have hwy : wrap64 (y + 1) = y + 1 := w64 (by omega) (by have := HF.out.1; omega)
    have HA2 : Aside0 ((li ++ [(⟨p, now + rd (rd_L5 l2 n) y⟩ : S146)]) ++ fly now p ((rd_L5 l2 n).drop (y + 1).toNat) = l ++ fly now p (rd_L5 l2 n)) := ⟨by rw [← HA.out, drop_int h0y hy]; simp [fly]⟩
    have p6 : (0 ≤ y) = True := eq_true h0y
    have q6 : (y < ((rd_L5 l2 n).length : Int)) = True := eq_true hy
    have d1 : (p.f0 == 1) = true := by rw [HKIND.out]; rfl
    have HY := Aside0.mk hy
    clear hy h0y hdm
    go_wp2_with (first | ((with_reducible refine gate_dst (N := 8) rfl ?_); refine boxA #[.int .i64 0, .int .i64 0, .int .i64 0, .int .i64 0, .int .i64 0] 146 ?_; intro gx hg w2 hbox hb; have NXA := nlt BA hg; have NXP := nlt BP hg; have GX : w.heap.size ≤ gx := hg ▸ HK.out.1; have BX := Aside0.mk hbox; replace BA := bkb BA hb; replace BP := bkb BP hb; have HRX := Aside0.mk (R_apart HR.out hg hb); clear HR; replace HK := Aside0.mk (Kept.below HK.out hb); replace HB := bst HB hb; clear a0 a1 a2_ a3_ c0 c1 c2_ c3 hd; have a0 := b0 BA; have a1 := b1 BA; have a2_ := b2 BA; have a3_ := b3 BA; have c0 := b0 BP; have c1 := b1 BP; have c2_ := b2 BP; have c3 := b3 BP; have hnb1 := NXA.out; have hnb2 := NXP.out; have e0 := blk_frozen BX.out 0; have e1 := blk_frozen BX.out 1; have e2 := blk_frozen BX.out 2; have e3 := blk_frozen BX.out 3; have e4 := blk_frozen BX.out 4; have x0 := b0 BX; have x1 := b1 BX; have x2 := b2 BX; have x3 := b3 BX; have x4 := b4 BX; clear hg hbox hb))
    clear a0 a1 a2_ a3_ c0 c1 c2_ c3 e0 e1 e2 e3 e4 d1 x0 x1 x2 x3 x4
    have GX0 : Aside0 (w0.heap.size ≤ gx) := ⟨Nat.le_trans hB.size GX⟩
    have hnx : ∀ k, ((ok k ∨ w.heap.size ≤ k) ∧ k ≠ gp) ∧ k ≠ gx → k ≠ gx := fun k hk => hk.2
    replace BA := Aside0.mk (blk_far (p := ⟨gx, 4, none⟩) (blk_far (p := ⟨gx, 3, none⟩) (blk_far (p := ⟨gx, 2, none⟩) (blk_far (p := ⟨gx, 1, none⟩) (blk_far (p := ⟨gx, 0, none⟩) (BA.out) (hnb1) (.int .i64 p.f0)) (hnb1) (.int .i64 p.f1)) (hnb1) (.int .i64 p.f2)) (hnb1) (.int .i64 p.f3)) (hnb1) (.int .i64 (now + rd (rd_L5 l2 n) y)))
    replace BP := Aside0.mk (blk_far (p := ⟨gx, 4, none⟩) (blk_far (p := ⟨gx, 3, none⟩) (blk_far (p := ⟨gx, 2, none⟩) (blk_far (p := ⟨gx, 1, none⟩) (blk_far (p := ⟨gx, 0, none⟩) (BP.out) (hnb2) (.int .i64 p.f0)) (hnb2) (.int .i64 p.f1)) (hnb2) (.int .i64 p.f2)) (hnb2) (.int .i64 p.f3)) (hnb2) (.int .i64 (now + rd (rd_L5 l2 n) y)))
    replace BX := Aside0.mk (blk_put (cs := #[.int .i64 p.f0, .int .i64 p.f1, .int .i64 p.f2, .int .i64 p.f3, .int .i64 0]) (cs' := #[.int .i64 p.f0, .int .i64 p.f1, .int .i64 p.f2, .int .i64 p.f3, .int .i64 (now + rd (rd_L5 l2 n) y)]) (blk_put (cs := #[.int .i64 p.f0, .int .i64 p.f1, .int .i64 p.f2, .int .i64 0, .int .i64 0]) (cs' := #[.int .i64 p.f0, .int .i64 p.f1, .int .i64 p.f2, .int .i64 p.f3, .int .i64 0]) (blk_put (cs := #[.int .i64 p.f0, .int .i64 p.f1, .int .i64 0, .int .i64 0, .int .i64 0]) (cs' := #[.int .i64 p.f0, .int .i64 p.f1, .int .i64 p.f2, .int .i64 0, .int .i64 0]) (blk_put (cs := #[.int .i64 p.f0, .int .i64 0, .int .i64 0, .int .i64 0, .int .i64 0]) (cs' := #[.int .i64 p.f0, .int .i64 p.f1, .int .i64 0, .int .i64 0, .int .i64 0]) (blk_put (cs := #[.int .i64 0, .int .i64 0, .int .i64 0, .int .i64 0, .int .i64 0]) (cs' := #[.int .i64 p.f0, .int .i64 0, .int .i64 0, .int .i64 0, .int .i64 0]) (BX.out) 0 (.int .i64 p.f0) rfl) 1 (.int .i64 p.f1) rfl) 2 (.int .i64 p.f2) rfl) 3 (.int .i64 p.f3) rfl) 4 (.int .i64 (now + rd (rd_L5 l2 n) y)) rfl)
    replace HRX := Aside0.mk (Kd.R_far (p := ⟨gx, 4, none⟩) (Kd.R_far (p := ⟨gx, 3, none⟩) (Kd.R_far (p := ⟨gx, 2, none⟩) (Kd.R_far (p := ⟨gx, 1, none⟩) (Kd.R_far (p := ⟨gx, 0, none⟩) (HRX.out) hnx (.int .i64 p.f0)) hnx (.int .i64 p.f1)) hnx (.int .i64 p.f2)) hnx (.int .i64 p.f3)) hnx (.int .i64 (now + rd (rd_L5 l2 n) y)))
    replace HK := Aside0.mk (Kept.setCell (p := ⟨gx, 4, none⟩) (Kept.setCell (p := ⟨gx, 3, none⟩) (Kept.setCell (p := ⟨gx, 2, none⟩) (Kept.setCell (p := ⟨gx, 1, none⟩) (Kept.setCell (p := ⟨gx, 0, none⟩) (HK.out) (.inr GX) (.int .i64 p.f0)) (.inr GX) (.int .i64 p.f1)) (.inr GX) (.int .i64 p.f2)) (.inr GX) (.int .i64 p.f3)) (.inr GX) (.int .i64 (now + rd (rd_L5 l2 n) y)))
    replace HB := Aside0.mk (below_set (g := gx) (j := 4) (v := .int .i64 (now + rd (rd_L5 l2 n) y)) (below_set (g := gx) (j := 3) (v := .int .i64 p.f3) (below_set (g := gx) (j := 2) (v := .int .i64 p.f2) (below_set (g := gx) (j := 1) (v := .int .i64 p.f1) (below_set (g := gx) (j := 0) (v := .int .i64 p.f0) (HB.out) GX0.out) GX0.out) GX0.out) GX0.out) GX0.out)
    generalize (((((w2.setCell ⟨gx, 0, none⟩ (.int .i64 p.f0)).setCell ⟨gx, 1, none⟩ (.int .i64 p.f1)).setCell ⟨gx, 2, none⟩ (.int .i64 p.f2)).setCell ⟨gx, 3, none⟩ (.int .i64 p.f3)).setCell ⟨gx, 4, none⟩ (.int .i64 (now + rd (rd_L5 l2 n) y))) = w3 at BA BP BX HRX HK HB ⊢
    clear hnb1 hnb2 hnx
    have s0 := b2 BA
    have s1 := b0 BX
    have s2 := b1 BX
    have s3 := b2 BX
    have s4 := b3 BX
    have s5 := b4 BX
    refine start_ (n := 11) (S := fun w' => w'.cell? ⟨ga, 2, none⟩ = some (.slice Ad li.length cd) ∧ w'.cell? ⟨gx, 0, none⟩ = some (.int .i64 p.f0) ∧ w'.cell? ⟨gx, 1, none⟩ = some (.int .i64 p.f1) ∧ w'.cell? ⟨gx, 2, none⟩ = some (.int .i64 p.f2) ∧ w'.cell? ⟨gx, 3, none⟩ = some (.int .i64 p.f3) ∧ w'.cell? ⟨gx, 4, none⟩ = some (.int .i64 (now + rd (rd_L5 l2 n) y))) (ds := [10]) #[false, false, false, false, false, false, false, false, false, false, false] (by kernel_rfl) rfl rfl ⟨s0, s1, s2, s3, s4, s5⟩ (fun hHeld => ?_)
    clear s0 s1 s2 s3 s4 s5
    replace HRX := Aside0.mk (Kd.R_drew HRX.out)
    replace BA := Aside0.mk (blk_drew BA.out)
    replace BP := Aside0.mk (blk_drew BP.out)
    replace BX := Aside0.mk (blk_drew BX.out)
    replace HK := Aside0.mk (Kept.drew HK.out)
    replace HB := Aside0.mk (below_drew1 HB.out)
    generalize w3.drew = w4 at HRX BA BP BX HK HB hHeld ⊢
    refine pureA 0 42 #[true, false, false, false, false, false, false, false, false, false, false] (by kernel_rfl) ?_
    refine pureA 1 43 #[true, true, false, false, false, false, false, false, false, false, false] (by kernel_rfl) ?_
    refine pureA 2 44 #[true, true, true, false, false, false, false, false, false, false, false] (by kernel_rfl) ?_
    refine pureA 3 45 #[true, true, true, true, false, false, false, false, false, false, false] (by kernel_rfl) ?_
    refine takeA 4 46 #[true, true, true, true, true, false, false, false, false, false, false] (by kernel_rfl) hHeld ?_
    refine takeA 5 47 #[true, true, true, true, true, true, false, false, false, false, false] (by kernel_rfl) hHeld ?_
    refine one_ (i := 6) (N := some 48) #[true, true, true, true, true, true, true, false, false, false, false] rfl rfl (by kernel_rfl) (by decide) (fun K hK => ?_)
    refine event_step (w1 := w4.alloc (.cells #[.int .i64 p.f0, .int .i64 p.f1, .int .i64 p.f2, .int .i64 p.f3, .int .i64 (now + rd (rd_L5 l2 n) y)] 146)) (v := .slice (some ⟨w4.heap.size, 0, none⟩) 1 1) (by rfl) (by first | (go_simp; done) | (go_simp; rfl)) ?_
    have hba := below_alloc (Below.refl w4.heap.size w4) (.cells #[.int .i64 p.f0, .int .i64 p.f1, .int .i64 p.f2, .int .i64 p.f3, .int .i64 (now + rd (rd_L5 l2 n) y)] 146)
    refine hK.out _ _ ⟨(hba.cell (World.block_lt_of_cell? w4 _ hHeld.1)).trans hHeld.1, (hba.cell (World.block_lt_of_cell? w4 _ hHeld.2.1)).trans hHeld.2.1, (hba.cell (World.block_lt_of_cell? w4 _ hHeld.2.2.1)).trans hHeld.2.2.1, (hba.cell (World.block_lt_of_cell? w4 _ hHeld.2.2.2.1)).trans hHeld.2.2.2.1, (hba.cell (World.block_lt_of_cell? w4 _ hHeld.2.2.2.2.1)).trans hHeld.2.2.2.2.1, (hba.cell (World.block_lt_of_cell? w4 _ hHeld.2.2.2.2.2)).trans hHeld.2.2.2.2.2⟩ (fun hHeld2 => ?_)
    clear hK K hba hHeld2
    refine normP ?_
    refine one_ (i := 7) (N := some 49) #[true, true, true, true, true, true, true, true, false, false, false] rfl rfl (by kernel_rfl) (by decide) (fun K hK => ?_)
    have lgp := blk_lt BP.out
    have lgx := blk_lt BX.out
    have hj := HJ.out
    have hf1 := HF.out.1
    have hy1 := HY.out
    have hown := HRX.out.1
    refine Kd.R_append_step k146 (w0 := w0) (W := w4) w0.heap.size (by rfl) (.tmp 46) (.tmp 48) 121 146 (.agg #[.int .i64 0, .int .i64 0, .int .i64 0, .int .i64 0, .int .i64 0]) 40 rfl Try.underlying121 (by kernel_rfl) rfl (by decide) (by decide) (.slice Ad li.length cd) li ⟨p, now + rd (rd_L5 l2 n) y⟩ [.int .i64 p.f0, .int .i64 p.f1, .int .i64 p.f2, .int .i64 p.f3, .int .i64 (now + rd (rd_L5 l2 n) y)] (fun k => (ok k ∨ w.heap.size ≤ k) ∧ k ≠ gp) (fun _ => False) rfl rfl (k146_mkM _ _ _ _) (fun _ h => h.elim) (fun k hk => ⟨.inr (Nat.le_trans HK.out.1 hk), by omega⟩) (Kd.R_mono HRX.out (fun k hk => hk.1)) HB.out HB.out.size (by omega) ?_
    intro v1 w5 hR1 hB1 hg1 hat1
    have nga : some ga ≠ (Value.slice Ad li.length cd).ownBlock := fun e => by
     have h3 := hown ga e.symm
     rcases h3.1.1 with h4 | h4
     ·exact hoa h4
     ·exact Nat.lt_irrefl _ (Nat.lt_of_lt_of_le LA.out h4)
    have ngp : some gp ≠ (Value.slice Ad li.length cd).ownBlock := fun e => (hown gp e.symm).1.2 rfl
    have ngx : some gx ≠ (Value.slice Ad li.length cd).ownBlock := fun e => (hown gx e.symm).2 rfl
    refine hK.out _ _ ⟨cell_grown hg1 hHeld.1 nga, cell_grown hg1 hHeld.2.1 ngx, cell_grown hg1 hHeld.2.2.1 ngx, cell_grown hg1 hHeld.2.2.2.1 ngx, cell_grown hg1 hHeld.2.2.2.2.1 ngx, cell_grown hg1 hHeld.2.2.2.2.2 ngx⟩ (fun hHeld3 => ?_)
    clear hK K
    refine normP ?_
    refine pureA 8 50 #[true, true, true, true, true, true, true, true, true, false, false] (by kernel_rfl) ?_
    refine pureA 9 51 #[true, true, true, true, true, true, true, true, true, true, false] (by kernel_rfl) ?_
    refine last_ (i := 10) (N := none) #[true, true, true, true, true, true, true, true, true, true, true] rfl rfl (by kernel_rfl) (by decide) (fun K hK => ?_)
    have hsg := hHeld3.1
    obtain ⟨Av, cv, hv1⟩ := Kd.R_slice hR1
    replace BA := Aside0.mk (blk_grown BA.out hg1 nga)
    replace BP := Aside0.mk (blk_grown BP.out hg1 ngp)
    have hfrg := blk_frozen BA.out 2
    refine skip_ (w1 := w5.setCell ⟨ga, 2, none⟩ v1) (by rfl) rfl (by subst hv1; first | (go_simp; done) | (go_simp; rfl)) ?_
    clear hv1 hfrg hsg
    refine hK.out _ _ ?_
    clear hK K
    refine done_ (by kernel_rfl) ?_
    go_wp2
    go_roundg k2
    case measure => omega
    case rel =>
     have hrow2 : ∀ k, (Value.slice Ad li.length cd).ownBlock = some k → (ok k ∨ k = ga) ∨ w.heap.size ≤ k := fun k hk => (hown k hk).1.1.elim (fun h => .inl (.inl h)) .inr
     exact ⟨y + 1, v1, li ++ [⟨p, now + rd (rd_L5 l2 n) y⟩], by first | rfl | rw [hwy], HA2, ⟨by omega, by omega, by simp; omega⟩,
      ⟨Kd.R_far (p := ⟨ga, 2, none⟩) hR1 (fun k h e => by have e : k = ga := e; subst e; rcases h.1 with h4 | h4; exact hoa h4; exact Nat.lt_irrefl _ (Nat.lt_of_lt_of_le LA.out h4)) _⟩,
      ⟨blk_put (cs := #[.slice (some ad2) l2.length c2, .int .i64 n, .slice Ad li.length cd, .slice A9 m9 c9]) BA.out 2 _ rfl⟩, ⟨blk_far (p := ⟨ga, 2, none⟩) BP.out (fun h => NA.out h.symm) _⟩,
      ⟨(Kept.of_grown hg1 HK.out hrow2).setCell (p := ⟨ga, 2, none⟩) (.inl (.inr rfl)) _⟩, ⟨below_set hB1 hga⟩⟩
   ·have c6 : decide (y < ((rd_L5 l2 n).length : Int)) = false := decide_eq_false hy
    have HL : Aside0 (li = sendD l2 now p n l) := ⟨by
     have h1 := HA.out
     rw [List.drop_of_length_le (by have := HJ.out; omega)] at h1
     unfold sendD
     rw [if_pos (of_decide_eq_true HNF.out), ← h1]
     simp [fly]⟩
    clear hy
    have z1 := blk_frozen BA.out 1
    have NGA : Aside0 (∀ k, (ok k ∨ w.heap.size ≤ k) ∧ k ≠ gp → k ≠ ga) := ⟨fun k h e => by subst e; rcases h.1 with h4 | h4; exact hoa h4; exact Nat.lt_irrefl _ (Nat.lt_of_lt_of_le LA.out h4)⟩
    go_wp2
    refine bodyPost_end (v := .tuple #[]) (by first | rfl | (simp [results]; done) | (simp [results]; rfl)) rfl ⟨_, .slice Ad li.length cd, rfl, ?_, ?_, HK.out.setCell (p := ⟨ga, 1, none⟩) (.inl (.inr rfl)) _, below_set HB.out hga⟩
    rotate_left
    ·exact blk_put (cs := #[.slice (some ad2) l2.length c2, .int .i64 n, .slice Ad li.length cd, .slice A9 m9 c9]) BA.out 1 _ rfl
    ·rw [← HL.out]
     exact Kd.R_mono (Kd.R_far (p := ⟨ga, 1, none⟩) HR.out NGA.out _) (fun k h => h.1)
 ·have c5 : decide (n < (l2.length : Int)) = false := decide_eq_false hnf
  have HL : Aside0 (l = sendD l2 now p n l) := ⟨by unfold sendD; rw [if_neg hnf]⟩
  clear hnf
  have z1 := blk_frozen BA.out 1
  have NGA : Aside0 (∀ k, ok k ∧ k ≠ gp → k ≠ ga) := ⟨fun k h e => hoa (e ▸ h.1)⟩
  go_quiet (fail)
  go_wp2
  refine bodyPost_end (v := .tuple #[]) (by first | rfl | (simp [results]; done) | (simp [results]; rfl)) rfl ⟨_, .slice A8 l.length c8, rfl, ?_, ?_, Kept.setCell (p := ⟨ga, 1, none⟩) (by (with_reducible repeat (first | apply Kept.drewN | apply Kept.drew)); exact HK.out) (.inl (.inr rfl)) _, below_set (by (with_reducible repeat (first | apply pw_below_drewN | apply below_drew1)); exact HB.out) hga⟩
  rotate_left
  ·exact blk_put (cs := #[.slice A2 l2.length c2, .int .i64 n, .slice A8 l.length c8, .slice A9 m9 c9]) (qb BA) 1 _ rfl
  ·rw [← HL.out]
   exact Kd.R_mono (Kd.R_far (p := ⟨ga, 1, none⟩) (by (with_reducible repeat (first | apply Kd.R_drewN | apply Kd.R_drew)); exact HR.out) NGA.out _) (fun k h => .inl h.1)
set_option maxHeartbeats 8000000 in
set_option maxRecDepth 100000 in
theorem specSendU (w0 w : World) (ok : Nat → Prop) (ga : Nat) (now : Int) (p : S60) (A2 : Option Addr) (c2 : Nat) (l2 : List (List Int)) (n : Int) (v2 v3 : Value) (l : List S146)
  (hk : p.f0 = 2) (hR : Kd.R k146 146 w w0.heap.size ok v3 l)
  (BA0 : w.heap[ga]? = some (.cells #[.slice A2 l2.length c2, .int .i64 n, v2, v3] 123 (0, 0)))
  (hga : w0.heap.size ≤ ga) (hoa : ¬ ok ga) (hs : ∃ A m c, v2 = .slice A m c)
  (h2 : Kd.C (Kd.slice 3 (Kd.int .i64)) w0 A2 l2.length l2) (hB : Below w0.heap.size w0 w)
  (hnow : 1 ≤ now) (hnow2 : now ≤ 2000) (hn0 : 0 ≤ n) (hn1 : n ≤ 1000000000)
  (hfa : ∀ f, f ∈ l2 → f.length ≤ 10 ∧ ∀ d, d ∈ f → 1 ≤ d ∧ d ≤ 1000) (hM : l.length ≤ 1000000) :
  Calls Try.prog 81 #[.pointer (some ⟨ga, 0, none⟩), .int .i64 now, .agg #[.int .i64 p.f0, .int .i64 p.f1, .int .i64 p.f2, .int .i64 p.f3]] w fun e w' => ∃ v_ vn, e = .returned v_ ∧
   Kd.R k146 146 w' w0.heap.size (fun k => ok k ∨ w.heap.size ≤ k) vn (sendD l2 now p n l) ∧ w'.heap[ga]? = some (.cells #[.slice A2 l2.length c2, .int .i64 (n + 1), v2, vn] 123 (0, 0)) ∧
   Kept w w' (fun k => ok k ∨ k = ga) ∧ Below w0.heap.size w0 w' := by
 have hu146 := Try.underlying146
 have HKIND := Aside0.mk hk
 clear hk
 obtain ⟨A9, m9, c9, hs⟩ := hs
 subst hs
 obtain ⟨A8, c8, hv8⟩ := Kd.R_slice hR
 subst hv8
 have BA := Aside0.mk BA0
 have HR := Aside0.mk hR
 have HB := Aside0.mk hB
 have HK := Aside0.mk (Kept.refl w (fun k => ok k ∨ k = ga))
 have hwn : wrap64 (n + 1) = n + 1 := w64 (by omega) (by omega)
 have a0 := b0 BA
 have a1 := b1 BA
 have a2_ := b2 BA
 have a3_ := b3 BA
 go_enter Try.func81, Try.ntmps81
 go_wp2_with (first | ((with_reducible refine gate_dst (N := 5) rfl ?_); refine boxA #[.int .i64 p.f0, .int .i64 p.f1, .int .i64 p.f2, .int .i64 p.f3] 60 ?_; intro gp hg w1 hbox hb; have NA := nlt BA hg; have GE : w.heap.size ≤ gp := Nat.le_of_eq hg.symm; have BP := Aside0.mk hbox; replace BA := bkb BA hb; replace HR := Aside0.mk (R_apart HR.out hg hb); replace HK := Aside0.mk (Kept.below HK.out hb); replace HB := bst HB hb; clear a0 a1 a2_ a3_; have a0 := b0 BA; have a1 := b1 BA; have a2_ := b2 BA; have a3_ := b3 BA; have c0 := b0 BP; have c1 := b1 BP; have c2_ := b2 BP; have c3 := b3 BP; clear hg hbox hb))
 by_cases hnf : n < (l2.length : Int)
 ·have c5 : decide (n < (l2.length : Int)) = true := decide_eq_true hnf
  obtain ⟨ad2, Af, cf2, e2, hy0, hyl, hyi⟩ := at_L5 h2 n hn0 hnf
  cases e2
  have hyb := World.block_lt_of_cell? w0 _ hy0
  have hy0w := (HB.out.cell hyb).trans hy0
  have p2 : (0 ≤ n) = True := eq_true hn0
  have q2 : (n < (l2.length : Int)) = True := eq_true hnf
  have HF := Aside0.mk (fate_of hfa hn0 hnf)
  clear hnf
  have HNF := Aside0.mk c5
  go_quiet (fail)
  go_wp2
  go_quiet (fail)
  go_wp2
  go_loopg [30] (rd_L5 l2 n).length (fun kq v30 w' => ∃ (y : Int) (vd : Value) (li : List S146), v30 = .int .i64 y ∧ Aside0 (li ++ fly now p ((rd_L5 l2 n).drop y.toNat) = l ++ fly now p (rd_L5 l2 n)) ∧ Aside0 (0 ≤ y ∧ y.toNat + kq = (rd_L5 l2 n).length ∧ li.length ≤ 1000000 + y.toNat) ∧ Aside0 (Kd.R k146 146 w' w0.heap.size (fun k => (ok k ∨ w.heap.size ≤ k) ∧ k ≠ gp) vd li) ∧
   Aside0 (w'.heap[ga]? = some (.cells #[.slice (some ad2) l2.length c2, .int .i64 n, .slice A9 m9 c9, vd] 123 (0, 0))) ∧ Aside0 (w'.heap[gp]? = some (.cells #[.int .i64 p.f0, .int .i64 p.f1, .int .i64 p.f2, .int .i64 p.f3] 60 (0, 0))) ∧ Aside0 (Kept w w' (fun k => ok k ∨ k = ga)) ∧ Aside0 (Below w0.heap.size w0 w'))
  case atStart => exact ⟨0, _, l, rfl, ⟨by simp⟩, ⟨by omega, by simp, by omega⟩, ⟨by (with_reducible repeat (first | apply Kd.R_drewN | apply Kd.R_drew)); exact Kd.R_mono HR.out (fun k hk => ⟨.inl hk.1, hk.2⟩)⟩, ⟨qb BA⟩, ⟨qb BP⟩, ⟨by (with_reducible repeat (first | apply Kept.drewN | apply Kept.drew)); exact HK.out⟩, ⟨by (with_reducible repeat (first | apply pw_below_drewN | apply below_drew1)); exact HB.out⟩⟩
  case round =>
   clear a0 a1 a2_ a3_ c0 c1 c2_ c3 HR HK HB BA BP hy0w hy0
   obtain ⟨y, vd, li, rfl, HA, HJ, HR, BA, BP, HK, HB⟩ := hrel
   obtain ⟨Ad, cd, hvd⟩ := Kd.R_slice HR.out
   subst hvd
   have a0 := b0 BA
   have a1 := b1 BA
   have a2_ := b2 BA
   have a3_ := b3 BA
   have c0 := b0 BP
   have c1 := b1 BP
   have c2_ := b2 BP
   have c3 := b3 BP
   have hfC := Kd.C_below hyi HB.out
   have LA := Aside0.mk (blk_lt BA0)
   by_cases hy : y < ((rd_L5 l2 n).length : Int)
   ·have h0y : 0 ≤ y := HJ.out.1
    obtain ⟨k2, rfl⟩ : ∃ k2, gk = k2 + 1 := ⟨gk - 1, by have := HJ.out; omega⟩
    have c6 : decide (y < ((rd_L5 l2 n).length : Int)) = true := decide_eq_true hy
    obtain ⟨ad3, e3, hd⟩ := Kd.at_int hfC y h0y hy
    cases e3
    have hdm := HF.out.2 _ (rd_in h0y hy)
    have hwd : wrap64 (now + rd (rd_L5 l2 n) y) = now + rd (rd_L5 l2 n) y := w64 (by omega) (by omega)
    have hwy : wrap64 (y + 1) = y + 1 := w64 (by omega) (by have := HF.out.1; omega)
    have HA2 : Aside0 ((li ++ [(⟨p, now + rd (rd_L5 l2 n) y⟩ : S146)]) ++ fly now p ((rd_L5 l2 n).drop (y + 1).toNat) = l ++ fly now p (rd_L5 l2 n)) := ⟨by rw [← HA.out, drop_int h0y hy]; simp [fly]⟩
    have p6 : (0 ≤ y) = True := eq_true h0y
    have q6 : (y < ((rd_L5 l2 n).length : Int)) = True := eq_true hy
    have d1 : (p.f0 == 1) = false := by rw [HKIND.out]; rfl
    have HY := Aside0.mk hy
    clear hy h0y hdm
    go_wp2_with (first | ((with_reducible refine gate_dst (N := 8) rfl ?_); refine boxA #[.int .i64 0, .int .i64 0, .int .i64 0, .int .i64 0, .int .i64 0] 146 ?_; intro gx hg w2 hbox hb; have NXA := nlt BA hg; have NXP := nlt BP hg; have GX : w.heap.size ≤ gx := hg ▸ HK.out.1; have BX := Aside0.mk hbox; replace BA := bkb BA hb; replace BP := bkb BP hb; have HRX := Aside0.mk (R_apart HR.out hg hb); clear HR; replace HK := Aside0.mk (Kept.below HK.out hb); replace HB := bst HB hb; clear a0 a1 a2_ a3_ c0 c1 c2_ c3 hd; have a0 := b0 BA; have a1 := b1 BA; have a2_ := b2 BA; have a3_ := b3 BA; have c0 := b0 BP; have c1 := b1 BP; have c2_ := b2 BP; have c3 := b3 BP; have hnb1 := NXA.out; have hnb2 := NXP.out; have e0 := blk_frozen BX.out 0; have e1 := blk_frozen BX.out 1; have e2 := blk_frozen BX.out 2; have e3 := blk_frozen BX.out 3; have e4 := blk_frozen BX.out 4; have x0 := b0 BX; have x1 := b1 BX; have x2 := b2 BX; have x3 := b3 BX; have x4 := b4 BX; clear hg hbox hb))
    clear a0 a1 a2_ a3_ c0 c1 c2_ c3 e0 e1 e2 e3 e4 d1 x0 x1 x2 x3 x4
    have GX0 : Aside0 (w0.heap.size ≤ gx) := ⟨Nat.le_trans hB.size GX⟩
    have hnx : ∀ k, ((ok k ∨ w.heap.size ≤ k) ∧ k ≠ gp) ∧ k ≠ gx → k ≠ gx := fun k hk => hk.2
    replace BA := Aside0.mk (blk_far (p := ⟨gx, 4, none⟩) (blk_far (p := ⟨gx, 3, none⟩) (blk_far (p := ⟨gx, 2, none⟩) (blk_far (p := ⟨gx, 1, none⟩) (blk_far (p := ⟨gx, 0, none⟩) (BA.out) (hnb1) (.int .i64 p.f0)) (hnb1) (.int .i64 p.f1)) (hnb1) (.int .i64 p.f2)) (hnb1) (.int .i64 p.f3)) (hnb1) (.int .i64 (now + rd (rd_L5 l2 n) y)))
    replace BP := Aside0.mk (blk_far (p := ⟨gx, 4, none⟩) (blk_far (p := ⟨gx, 3, none⟩) (blk_far (p := ⟨gx, 2, none⟩) (blk_far (p := ⟨gx, 1, none⟩) (blk_far (p := ⟨gx, 0, none⟩) (BP.out) (hnb2) (.int .i64 p.f0)) (hnb2) (.int .i64 p.f1)) (hnb2) (.int .i64 p.f2)) (hnb2) (.int .i64 p.f3)) (hnb2) (.int .i64 (now + rd (rd_L5 l2 n) y)))
    replace BX := Aside0.mk (blk_put (cs := #[.int .i64 p.f0, .int .i64 p.f1, .int .i64 p.f2, .int .i64 p.f3, .int .i64 0]) (cs' := #[.int .i64 p.f0, .int .i64 p.f1, .int .i64 p.f2, .int .i64 p.f3, .int .i64 (now + rd (rd_L5 l2 n) y)]) (blk_put (cs := #[.int .i64 p.f0, .int .i64 p.f1, .int .i64 p.f2, .int .i64 0, .int .i64 0]) (cs' := #[.int .i64 p.f0, .int .i64 p.f1, .int .i64 p.f2, .int .i64 p.f3, .int .i64 0]) (blk_put (cs := #[.int .i64 p.f0, .int .i64 p.f1, .int .i64 0, .int .i64 0, .int .i64 0]) (cs' := #[.int .i64 p.f0, .int .i64 p.f1, .int .i64 p.f2, .int .i64 0, .int .i64 0]) (blk_put (cs := #[.int .i64 p.f0, .int .i64 0, .int .i64 0, .int .i64 0, .int .i64 0]) (cs' := #[.int .i64 p.f0, .int .i64 p.f1, .int .i64 0, .int .i64 0, .int .i64 0]) (blk_put (cs := #[.int .i64 0, .int .i64 0, .int .i64 0, .int .i64 0, .int .i64 0]) (cs' := #[.int .i64 p.f0, .int .i64 0, .int .i64 0, .int .i64 0, .int .i64 0]) (BX.out) 0 (.int .i64 p.f0) rfl) 1 (.int .i64 p.f1) rfl) 2 (.int .i64 p.f2) rfl) 3 (.int .i64 p.f3) rfl) 4 (.int .i64 (now + rd (rd_L5 l2 n) y)) rfl)
    replace HRX := Aside0.mk (Kd.R_far (p := ⟨gx, 4, none⟩) (Kd.R_far (p := ⟨gx, 3, none⟩) (Kd.R_far (p := ⟨gx, 2, none⟩) (Kd.R_far (p := ⟨gx, 1, none⟩) (Kd.R_far (p := ⟨gx, 0, none⟩) (HRX.out) hnx (.int .i64 p.f0)) hnx (.int .i64 p.f1)) hnx (.int .i64 p.f2)) hnx (.int .i64 p.f3)) hnx (.int .i64 (now + rd (rd_L5 l2 n) y)))
    replace HK := Aside0.mk (Kept.setCell (p := ⟨gx, 4, none⟩) (Kept.setCell (p := ⟨gx, 3, none⟩) (Kept.setCell (p := ⟨gx, 2, none⟩) (Kept.setCell (p := ⟨gx, 1, none⟩) (Kept.setCell (p := ⟨gx, 0, none⟩) (HK.out) (.inr GX) (.int .i64 p.f0)) (.inr GX) (.int .i64 p.f1)) (.inr GX) (.int .i64 p.f2)) (.inr GX) (.int .i64 p.f3)) (.inr GX) (.int .i64 (now + rd (rd_L5 l2 n) y)))
    replace HB := Aside0.mk (below_set (g := gx) (j := 4) (v := .int .i64 (now + rd (rd_L5 l2 n) y)) (below_set (g := gx) (j := 3) (v := .int .i64 p.f3) (below_set (g := gx) (j := 2) (v := .int .i64 p.f2) (below_set (g := gx) (j := 1) (v := .int .i64 p.f1) (below_set (g := gx) (j := 0) (v := .int .i64 p.f0) (HB.out) GX0.out) GX0.out) GX0.out) GX0.out) GX0.out)
    generalize (((((w2.setCell ⟨gx, 0, none⟩ (.int .i64 p.f0)).setCell ⟨gx, 1, none⟩ (.int .i64 p.f1)).setCell ⟨gx, 2, none⟩ (.int .i64 p.f2)).setCell ⟨gx, 3, none⟩ (.int .i64 p.f3)).setCell ⟨gx, 4, none⟩ (.int .i64 (now + rd (rd_L5 l2 n) y))) = w3 at BA BP BX HRX HK HB ⊢
    clear hnb1 hnb2 hnx
    have s0 := b3 BA
    have s1 := b0 BX
    have s2 := b1 BX
    have s3 := b2 BX
    have s4 := b3 BX
    have s5 := b4 BX
    refine start_ (n := 11) (S := fun w' => w'.cell? ⟨ga, 3, none⟩ = some (.slice Ad li.length cd) ∧ w'.cell? ⟨gx, 0, none⟩ = some (.int .i64 p.f0) ∧ w'.cell? ⟨gx, 1, none⟩ = some (.int .i64 p.f1) ∧ w'.cell? ⟨gx, 2, none⟩ = some (.int .i64 p.f2) ∧ w'.cell? ⟨gx, 3, none⟩ = some (.int .i64 p.f3) ∧ w'.cell? ⟨gx, 4, none⟩ = some (.int .i64 (now + rd (rd_L5 l2 n) y))) (ds := [10]) #[false, false, false, false, false, false, false, false, false, false, false] (by kernel_rfl) rfl rfl ⟨s0, s1, s2, s3, s4, s5⟩ (fun hHeld => ?_)
    clear s0 s1 s2 s3 s4 s5
    replace HRX := Aside0.mk (Kd.R_drew HRX.out)
    replace BA := Aside0.mk (blk_drew BA.out)
    replace BP := Aside0.mk (blk_drew BP.out)
    replace BX := Aside0.mk (blk_drew BX.out)
    replace HK := Aside0.mk (Kept.drew HK.out)
    replace HB := Aside0.mk (below_drew1 HB.out)
    generalize w3.drew = w4 at HRX BA BP BX HK HB hHeld ⊢
    refine pureA 0 52 #[true, false, false, false, false, false, false, false, false, false, false] (by kernel_rfl) ?_
    refine pureA 1 53 #[true, true, false, false, false, false, false, false, false, false, false] (by kernel_rfl) ?_
    refine pureA 2 54 #[true, true, true, false, false, false, false, false, false, false, false] (by kernel_rfl) ?_
    refine pureA 3 55 #[true, true, true, true, false, false, false, false, false, false, false] (by kernel_rfl) ?_
    refine takeA 4 56 #[true, true, true, true, true, false, false, false, false, false, false] (by kernel_rfl) hHeld ?_
    refine takeA 5 57 #[true, true, true, true, true, true, false, false, false, false, false] (by kernel_rfl) hHeld ?_
    refine one_ (i := 6) (N := some 58) #[true, true, true, true, true, true, true, false, false, false, false] rfl rfl (by kernel_rfl) (by decide) (fun K hK => ?_)
    refine event_step (w1 := w4.alloc (.cells #[.int .i64 p.f0, .int .i64 p.f1, .int .i64 p.f2, .int .i64 p.f3, .int .i64 (now + rd (rd_L5 l2 n) y)] 146)) (v := .slice (some ⟨w4.heap.size, 0, none⟩) 1 1) (by rfl) (by first | (go_simp; done) | (go_simp; rfl)) ?_
    have hba := below_alloc (Below.refl w4.heap.size w4) (.cells #[.int .i64 p.f0, .int .i64 p.f1, .int .i64 p.f2, .int .i64 p.f3, .int .i64 (now + rd (rd_L5 l2 n) y)] 146)
    refine hK.out _ _ ⟨(hba.cell (World.block_lt_of_cell? w4 _ hHeld.1)).trans hHeld.1, (hba.cell (World.block_lt_of_cell? w4 _ hHeld.2.1)).trans hHeld.2.1, (hba.cell (World.block_lt_of_cell? w4 _ hHeld.2.2.1)).trans hHeld.2.2.1, (hba.cell (World.block_lt_of_cell? w4 _ hHeld.2.2.2.1)).trans hHeld.2.2.2.1, (hba.cell (World.block_lt_of_cell? w4 _ hHeld.2.2.2.2.1)).trans hHeld.2.2.2.2.1, (hba.cell (World.block_lt_of_cell? w4 _ hHeld.2.2.2.2.2)).trans hHeld.2.2.2.2.2⟩ (fun hHeld2 => ?_)
    clear hK K hba hHeld2
    refine normP ?_
    refine one_ (i := 7) (N := some 59) #[true, true, true, true, true, true, true, true, false, false, false] rfl rfl (by kernel_rfl) (by decide) (fun K hK => ?_)
    have lgp := blk_lt BP.out
    have lgx := blk_lt BX.out
    have hj := HJ.out
    have hf1 := HF.out.1
    have hy1 := HY.out
    have hown := HRX.out.1
    refine Kd.R_append_step k146 (w0 := w0) (W := w4) w0.heap.size (by rfl) (.tmp 56) (.tmp 58) 121 146 (.agg #[.int .i64 0, .int .i64 0, .int .i64 0, .int .i64 0, .int .i64 0]) 40 rfl Try.underlying121 (by kernel_rfl) rfl (by decide) (by decide) (.slice Ad li.length cd) li ⟨p, now + rd (rd_L5 l2 n) y⟩ [.int .i64 p.f0, .int .i64 p.f1, .int .i64 p.f2, .int .i64 p.f3, .int .i64 (now + rd (rd_L5 l2 n) y)] (fun k => (ok k ∨ w.heap.size ≤ k) ∧ k ≠ gp) (fun _ => False) rfl rfl (k146_mkM _ _ _ _) (fun _ h => h.elim) (fun k hk => ⟨.inr (Nat.le_trans HK.out.1 hk), by omega⟩) (Kd.R_mono HRX.out (fun k hk => hk.1)) HB.out HB.out.size (by omega) ?_
    intro v1 w5 hR1 hB1 hg1 hat1
    have nga : some ga ≠ (Value.slice Ad li.length cd).ownBlock := fun e => by
     have h3 := hown ga e.symm
     rcases h3.1.1 with h4 | h4
     ·exact hoa h4
     ·exact Nat.lt_irrefl _ (Nat.lt_of_lt_of_le LA.out h4)
    have ngp : some gp ≠ (Value.slice Ad li.length cd).ownBlock := fun e => (hown gp e.symm).1.2 rfl
    have ngx : some gx ≠ (Value.slice Ad li.length cd).ownBlock := fun e => (hown gx e.symm).2 rfl
    refine hK.out _ _ ⟨cell_grown hg1 hHeld.1 nga, cell_grown hg1 hHeld.2.1 ngx, cell_grown hg1 hHeld.2.2.1 ngx, cell_grown hg1 hHeld.2.2.2.1 ngx, cell_grown hg1 hHeld.2.2.2.2.1 ngx, cell_grown hg1 hHeld.2.2.2.2.2 ngx⟩ (fun hHeld3 => ?_)
    clear hK K
    refine normP ?_
    refine pureA 8 60 #[true, true, true, true, true, true, true, true, true, false, false] (by kernel_rfl) ?_
    refine pureA 9 61 #[true, true, true, true, true, true, true, true, true, true, false] (by kernel_rfl) ?_
    refine last_ (i := 10) (N := none) #[true, true, true, true, true, true, true, true, true, true, true] rfl rfl (by kernel_rfl) (by decide) (fun K hK => ?_)
    have hsg := hHeld3.1
    obtain ⟨Av, cv, hv1⟩ := Kd.R_slice hR1
    replace BA := Aside0.mk (blk_grown BA.out hg1 nga)
    replace BP := Aside0.mk (blk_grown BP.out hg1 ngp)
    have hfrg := blk_frozen BA.out 3
    refine skip_ (w1 := w5.setCell ⟨ga, 3, none⟩ v1) (by rfl) rfl (by subst hv1; first | (go_simp; done) | (go_simp; rfl)) ?_
    clear hv1 hfrg hsg
    refine hK.out _ _ ?_
    clear hK K
    refine done_ (by kernel_rfl) ?_
    go_wp2
    go_roundg k2
    case measure => omega
    case rel =>
     have hrow2 : ∀ k, (Value.slice Ad li.length cd).ownBlock = some k → (ok k ∨ k = ga) ∨ w.heap.size ≤ k := fun k hk => (hown k hk).1.1.elim (fun h => .inl (.inl h)) .inr
     exact ⟨y + 1, v1, li ++ [⟨p, now + rd (rd_L5 l2 n) y⟩], by first | rfl | rw [hwy], HA2, ⟨by omega, by omega, by simp; omega⟩,
      ⟨Kd.R_far (p := ⟨ga, 3, none⟩) hR1 (fun k h e => by have e : k = ga := e; subst e; rcases h.1 with h4 | h4; exact hoa h4; exact Nat.lt_irrefl _ (Nat.lt_of_lt_of_le LA.out h4)) _⟩,
      ⟨blk_put (cs := #[.slice (some ad2) l2.length c2, .int .i64 n, .slice A9 m9 c9, .slice Ad li.length cd]) BA.out 3 _ rfl⟩, ⟨blk_far (p := ⟨ga, 3, none⟩) BP.out (fun h => NA.out h.symm) _⟩,
      ⟨(Kept.of_grown hg1 HK.out hrow2).setCell (p := ⟨ga, 3, none⟩) (.inl (.inr rfl)) _⟩, ⟨below_set hB1 hga⟩⟩
   ·have c6 : decide (y < ((rd_L5 l2 n).length : Int)) = false := decide_eq_false hy
    have HL : Aside0 (li = sendD l2 now p n l) := ⟨by
     have h1 := HA.out
     rw [List.drop_of_length_le (by have := HJ.out; omega)] at h1
     unfold sendD
     rw [if_pos (of_decide_eq_true HNF.out), ← h1]
     simp [fly]⟩
    clear hy
    have z1 := blk_frozen BA.out 1
    have NGA : Aside0 (∀ k, (ok k ∨ w.heap.size ≤ k) ∧ k ≠ gp → k ≠ ga) := ⟨fun k h e => by subst e; rcases h.1 with h4 | h4; exact hoa h4; exact Nat.lt_irrefl _ (Nat.lt_of_lt_of_le LA.out h4)⟩
    go_wp2
    refine bodyPost_end (v := .tuple #[]) (by first | rfl | (simp [results]; done) | (simp [results]; rfl)) rfl ⟨_, .slice Ad li.length cd, rfl, ?_, ?_, HK.out.setCell (p := ⟨ga, 1, none⟩) (.inl (.inr rfl)) _, below_set HB.out hga⟩
    rotate_left
    ·exact blk_put (cs := #[.slice (some ad2) l2.length c2, .int .i64 n, .slice A9 m9 c9, .slice Ad li.length cd]) BA.out 1 _ rfl
    ·rw [← HL.out]
     exact Kd.R_mono (Kd.R_far (p := ⟨ga, 1, none⟩) HR.out NGA.out _) (fun k h => h.1)
 ·have c5 : decide (n < (l2.length : Int)) = false := decide_eq_false hnf
  have HL : Aside0 (l = sendD l2 now p n l) := ⟨by unfold sendD; rw [if_neg hnf]⟩
  clear hnf
  have z1 := blk_frozen BA.out 1
  have NGA : Aside0 (∀ k, ok k ∧ k ≠ gp → k ≠ ga) := ⟨fun k h e => hoa (e ▸ h.1)⟩
  go_quiet (fail)
  go_wp2
  refine bodyPost_end (v := .tuple #[]) (by first | rfl | (simp [results]; done) | (simp [results]; rfl)) rfl ⟨_, .slice A8 l.length c8, rfl, ?_, ?_, Kept.setCell (p := ⟨ga, 1, none⟩) (by (with_reducible repeat (first | apply Kept.drewN | apply Kept.drew)); exact HK.out) (.inl (.inr rfl)) _, below_set (by (with_reducible repeat (first | apply pw_below_drewN | apply below_drew1)); exact HB.out) hga⟩
  rotate_left
  ·exact blk_put (cs := #[.slice A2 l2.length c2, .int .i64 n, .slice A9 m9 c9, .slice A8 l.length c8]) (qb BA) 1 _ rfl
  ·rw [← HL.out]
   exact Kd.R_mono (Kd.R_far (p := ⟨ga, 1, none⟩) (by (with_reducible repeat (first | apply Kd.R_drewN | apply Kd.R_drew)); exact HR.out) NGA.out _) (fun k h => .inl h.1)
end Go.Proofs.Ytndffnacbfdnoaa.PAll
