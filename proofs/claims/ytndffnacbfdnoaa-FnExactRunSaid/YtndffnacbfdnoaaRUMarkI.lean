-- Lines of MarkI that this claim uses.
import Derived.Test.YtndffnacbfdnoaaRUPAllx24
import Derived.Test.YtndffnacbfdnoaaRUPlain
import Derived.Test.YtndffnacbfdnoaaRUSqd
namespace Go.Proofs.Ytndffnacbfdnoaa.PAll
open Go.RowKit Go.Proofs.YtndffnacbfdnoaaW.PrintWords Go.Proofs.YtndffnacbfdnoaaW.PrintLast Go.Proofs.YtndffnacbfdnoaaW.PrintMore Go.Proofs.Ytndffnacbfdnoaa.Plain
attribute [local go_sem] max2_int min2_int max_two min_two max_three min_three max_four min_four
set_option linter.unusedVariables false
set_option linter.unusedSimpArgs false
def markIntSSg (k : Nat) : List (List Int) → Int → Option Int
 | [], a => some a
 | r :: l, a => (laws_markIntS.f k r a).bind fun t => markIntSSg k l t.1
def laws_markIntSS.f (k : Nat) (l : List (List Int)) (a : Int) : Option Int := if l.length ≤ 1048576 then markIntSSg k l a else none
theorem R_other {α : Type} {d : Kd α} {e base b2 : Nat} {W W2 : World} {ok ok2 : Nat → Prop} {v : Value} {xs : List α} {L : List Nat} (h : Kd.R d e W base ok v xs) (hk : Kept W W2 (fun k => ok2 k ∧ b2 ≤ k ∧ k < W.heap.size ∧ ∃ q, q ∈ L ∧ ∃ cells, W.heap[k]? = some (.cells cells q (0, 0))))
  (hd : ∀ q, q ∈ e :: d.E → ∀ q2, q2 ∈ L → q ≠ q2) : Kd.R d e W2 base ok v xs :=
 Kd.R_mono (Kd.R_kept (Kd.R_bound h) hk (fun k h1 h2 => by
  obtain ⟨q, hq, cells, hc⟩ := h1.2.2.2
  obtain ⟨q2, hq2, cells2, hc2⟩ := h2.2.2.2
  rw [hc] at hc2
  injection hc2 with hc2
  injection hc2 with _ hc2
  exact hd q hq q2 hq2 hc2)) (fun k h => h.1)
theorem blk_other {b2 g t : Nat} {cs : Array Value} {W W2 : World} {ok2 : Nat → Prop} {L : List Nat} (h : W.heap[g]? = some (.cells cs t (0, 0))) (hk : Kept W W2 (fun k => ok2 k ∧ b2 ≤ k ∧ k < W.heap.size ∧ ∃ q, q ∈ L ∧ ∃ cells, W.heap[k]? = some (.cells cells q (0, 0))))
  (hd : ∀ q2, q2 ∈ L → t ≠ q2) : W2.heap[g]? = some (.cells cs t (0, 0)) :=
 blk_kept h hk (fun h2 => by
  obtain ⟨q2, hq2, cells2, hc2⟩ := h2.2.2.2
  rw [h] at hc2
  injection hc2 with hc2
  injection hc2 with _ hc2
  exact hd q2 hq2 hc2)
set_option maxHeartbeats 8000000 in
set_option maxRecDepth 100000 in
theorem laws_markIntSS.calls (k : Nat) (ok : Nat → Prop) (A : Option Addr) (c : Nat) (l0 : List (List Int)) (a1 : Int) (r : Int) (w0 w : World) (hB : Below w0.heap.size w0 w) (hS : Kd.S (Kd.slice 3 (Kd.int .i64)) 82 w w0.heap.size ok (.slice A l0.length c) l0) (h : laws_markIntSS.f k l0 a1 = some r) :
  Calls Try.prog 43 #[.slice A l0.length c, .int .i64 a1] w fun e w' => e = .returned (.int .i64 r) ∧ Below w0.heap.size w0 w' ∧ Kept w w' ok := by
 unfold laws_markIntSS.f at h
 have hlen : l0.length ≤ 1048576 := by
  by_cases hq : l0.length ≤ 1048576
  ·exact hq
  ·rw [if_neg hq] at h
   exact absurd h (by simp)
 rw [if_pos hlen] at h
 have HF := Aside0.mk h
 clear h
 go_enter Try.func43, Try.ntmps43
 go_wp2
 go_loopg [1, 5] l0.length (fun kq v1 v5 w' => ∃ (x K : Int) (rows : List (List Int)), v1 = .int .i64 K ∧ v5 = .int .i64 x ∧ Aside0 (0 ≤ x ∧ x.toNat + kq = l0.length ∧ rows.length = l0.length ∧ rows.drop x.toNat = l0.drop x.toNat) ∧ Aside0 (markIntSSg k (l0.drop x.toNat) K = some r) ∧ Aside0 (Kd.S (Kd.slice 3 (Kd.int .i64)) 82 w' w0.heap.size ok (.slice A l0.length c) rows) ∧ Aside0 (Kept w w' ok) ∧ Aside0 (Below w0.heap.size w0 w'))
 case atStart => exact ⟨0, a1, l0, rfl, rfl, ⟨by omega, by simp, rfl, rfl⟩, ⟨by simpa using HF.out⟩, ⟨hS⟩, ⟨Kept.refl _ _⟩, ⟨hB⟩⟩
 case round =>
  obtain ⟨x, K, rows, rfl, rfl, HX, HA, HS, HK, HB⟩ := hrel
  by_cases hx : x < (l0.length : Int)
  ·obtain ⟨k1, rfl⟩ : ∃ k1, gk = k1 + 1 := ⟨gk - 1, by have := HX.out; omega⟩
   have c1 : decide (x < (l0.length : Int)) = true := decide_eq_true hx
   obtain ⟨g, cap, he, hg1, hg2, -⟩ := Kd.S_form HS.out (by have := HX.out; omega)
   injection he with ea en ec
   subst ea
   clear en ec
   obtain ⟨oki, cc, hcl, hM, hcc, hfr, hoki, hH⟩ := Kd.S_elem HS.out ([] : List Int) x HX.out.1 hx
   obtain ⟨vi, rfl, hR⟩ := hM
   have hc0 := hcc 0 vi rfl
   rw [show (Kd.slice 3 (Kd.int .i64)).sz = 1 from rfl, Nat.mul_one, Nat.add_zero] at hc0
   obtain ⟨Ai, ci, hvi⟩ := Kd.R_slice hR
   subst hvi
   obtain ⟨row, hrow⟩ : ∃ q, q = rows.getD x.toNat [] := ⟨_, rfl⟩
   rw [← hrow] at hR hc0 hH
   have hl : x.toNat < l0.length := by have := HX.out; omega
   have hr0 : l0.drop x.toNat = row :: l0.drop (x.toNat + 1) := by
    have h1 := HX.out.2.2.2
    have h2 : x.toNat < rows.length := by rw [HX.out.2.2.1]; exact hl
    rw [List.drop_eq_getElem_cons h2, List.drop_eq_getElem_cons hl] at h1
    injection h1 with h3 h4
    rw [List.drop_eq_getElem_cons hl, ← h3, hrow]
    simp [List.getD_eq_getElem?_getD, h2]
   have hA := HA.out
   rw [hr0] at hA
   obtain ⟨t, ht, hA⟩ := Option.bind_eq_some_iff.mp (show (laws_markIntS.f k row K).bind (fun t => markIntSSg k (l0.drop (x.toNat + 1)) t.1) = some r from hA)
   obtain ⟨t1, t2⟩ := t
   have HT := Aside0.mk ht
   have HA2 := Aside0.mk hA
   have HR := Aside0.mk hR
   have HH := Aside0.mk hH
   have HOK := Aside0.mk hoki
   have HLX := Aside0.mk hx
   have p1 : (0 ≤ x) = True := eq_true HX.out.1
   have q1 : (x < (l0.length : Int)) = True := eq_true hx
   have wx : wrap64 (x + 1) = x + 1 := w64 (by have := HX.out; omega) (by have := HX.out; omega)
   clear hx hcl hcc hfr hoki hH hR ht hA hr0 hl hrow
   go_wp2_with (first | ((with_reducible refine gate_callee (f := 90) rfl ?_); refine goesLA (some 17) rfl Try.func90 #[.slice Ai row.length ci, .int .i64 K] ?_; (with_reducible refine (laws_markIntS.calls k oki (.slice Ai row.length ci) row K t1 t2 w0 _ HB.out HR.out HT.out).mono ?_); rintro e w2 ⟨rfl, hr2, hb2, hk2⟩; refine ⟨_, rfl, ?_⟩; have HR2 := Aside0.mk hr2; have HH2 := Aside0.mk (Kd.H_kept HH.out hk2 (fun k _ hn => hn)); have HK2 := Aside0.mk (HK.out.then_ hk2 (fun k h => .inl (HOK.out k h).1)); have HB2 := Aside0.mk hb2; clear hr2 hb2 hk2 hc0))
   go_roundg k1
   case measure => omega
   case rel =>
    have hx := HX.out
    have hlx := HLX.out
    have hrr := Kd.R_mono (Kd.R_tight rfl HR2.out) (fun k h => HR.out.1 k h.symm)
    have hs2 := Kd.H_back (x' := t2) HH2.out ⟨_, rfl, hrr⟩ (fun k h => h)
    exact ⟨x + 1, t1, rows.set x.toNat t2, rfl, by first | rfl | rw [wx], ⟨by omega, by omega, by rw [List.length_set]; exact hx.2.2.1, by
     have h1 := congrArg (List.drop 1) hx.2.2.2
     rw [List.drop_drop, List.drop_drop] at h1
     rw [show (x + 1).toNat = x.toNat + 1 by omega, List.drop_set_of_lt (by omega)]
     exact h1⟩, ⟨by rw [show (x + 1).toNat = x.toNat + 1 by omega]; exact HA2.out⟩, ⟨hs2⟩, HK2, HB2⟩
  ·have c1 : decide (x < (l0.length : Int)) = false := decide_eq_false hx
   have HR : Aside0 (K = r) := ⟨by
    have h1 := HA.out
    rw [List.drop_of_length_le (by have := HX.out; omega)] at h1
    exact Option.some.inj h1⟩
   clear hx
   go_wp2
   go_ret
   exact ⟨by rw [← HR.out]; rfl, HB.out, HK.out⟩
end Go.Proofs.Ytndffnacbfdnoaa.PAll
