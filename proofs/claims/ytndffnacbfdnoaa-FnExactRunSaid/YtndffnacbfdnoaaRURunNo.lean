-- Lines of RunNo that this claim uses.
import Derived.Test.YtndffnacbfdnoaaRURunI
namespace Go.Proofs.Ytndffnacbfdnoaa.PAll
open Go.RowKit Go.Proofs.YtndffnacbfdnoaaW.PrintWords Go.Proofs.YtndffnacbfdnoaaW.PrintLast Go.Proofs.YtndffnacbfdnoaaW.PrintMore
attribute [local go_sem] max2_int min2_int max_two min_two max_three min_three max_four min_four
set_option linter.unusedVariables false
set_option linter.unusedSimpArgs false
set_option maxHeartbeats 8000000 in
set_option maxRecDepth 100000 in
theorem impl_Run.no (kr : Nat) (a0_0 : Int) (a0_1 : Int) (a0_2 : Int) (A1 : Option Addr) (c1 : Nat) (l1 : List (S84)) (A2 : Option Addr) (c2 : Nat) (l2 : List (List Int)) (a3 : Int) (w : World) (hr1 : Kd.C k84 w A1 l1.length l1) (hc1 : l1.length ≤ c1) (hr2 : Kd.C (Kd.slice 3 (Kd.int .i64)) w A2 l2.length l2) (hc2 : l2.length ≤ c2) (h : impl_runOk.f kr a0_0 a0_1 a0_2 l1 l2 a3 = some false) :
    Calls Try.prog 38 #[.agg #[.int .i64 a0_0, .int .i64 a0_1, .int .i64 a0_2], .slice A1 l1.length c1, .slice A2 l2.length c2, .int .i64 a3] w fun e w' => e = .returned (.slice none 0 0) ∧ Below w.heap.size w w' := by
  have hu34 := Try.underlying34
  have HR1 := Aside0.mk hr1
  have HC1 := Aside0.mk hc1
  have HR2 := Aside0.mk hr2
  have HC2 := Aside0.mk hc2
  have A5 := Aside0.mk h
  clear hr1 hc1 hr2 hc2 h
  have HB := Aside0.mk (Below.refl w.heap.size w)
  go_enter Try.func38, Try.ntmps38
  go_wp2_with (first | ((with_reducible refine gate_dst (N := 4) rfl ?_); refine boxA #[.int .i64 a0_0, .int .i64 a0_1, .int .i64 a0_2] 34 ?_; intro gr hg w1 hbox hb; have BR := Aside0.mk hbox; have GR := nge HB hg; replace HB := bst HB hb; clear hg hbox hb) | ((with_reducible refine gate_dst (N := 6) rfl ?_); refine boxA #[.slice A2 l2.length c2] 65 ?_; intro gf hg w2 hbox hb; have NRF := nlt BR hg; have GF := nge HB hg; have BF := Aside0.mk hbox; replace BR := bkb BR hb; replace HB := bst HB hb; clear hg hbox hb) | ((with_reducible refine gate_dst (N := 7) rfl ?_); refine boxA #[.int .i64 a3] 3 ?_; intro gt hg w3 hbox hb; have NRT := nlt BR hg; have NFT := nlt BF hg; have GT := nge HB hg; have BT := Aside0.mk hbox; replace BR := bkb BR hb; replace BF := bkb BF hb; replace HB := bst HB hb; have r0 := b0 BR; have r1 := b1 BR; have r2 := b2 BR; have f0 := b0 BF; have t0 := b0 BT; clear hg hbox hb) | ((with_reducible refine gate_callee (f := 84) rfl ?_); refine goesLA (some 25) rfl Try.func84 #[.agg #[.int .i64 a0_0, .int .i64 a0_1, .int .i64 a0_2], .slice A1 l1.length c1, .slice A2 l2.length c2, .int .i64 a3] ?_; (with_reducible refine (impl_runOk.calls kr a0_0 a0_1 a0_2 A1 c1 l1 A2 c2 l2 a3 false _ (Kd.C_below HR1.out HB.out) HC1.out (Kd.C_below HR2.out HB.out) HC2.out A5.out).mono ?_); rintro e w4 ⟨rfl, hb⟩; refine ⟨_, rfl, ?_⟩; replace BR := bkb BR hb; replace BF := bkb BF hb; replace BT := bkb BT hb; replace HB := bst HB hb; clear hb; clear r0 r1 r2 f0 t0; have r0 := b0 BR; have r1 := b1 BR; have r2 := b2 BR; have f0 := b0 BF; have t0 := b0 BT))
  go_ret
  exact ⟨rfl, HB.out⟩
end Go.Proofs.Ytndffnacbfdnoaa.PAll
