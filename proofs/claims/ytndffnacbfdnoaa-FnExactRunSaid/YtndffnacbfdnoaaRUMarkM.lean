-- Lines of MarkM that this claim uses.
import Derived.Test.YtndffnacbfdnoaaRUSqd
import Derived.Test.YtndffnacbfdnoaaRUPlain
import Derived.Test.YtndffnacbfdnoaaRUPAllx0
namespace Go.Proofs.Ytndffnacbfdnoaa.PAll
open Go.RowKit Go.Proofs.YtndffnacbfdnoaaW.PrintWords Go.Proofs.YtndffnacbfdnoaaW.PrintLast Go.Proofs.YtndffnacbfdnoaaW.PrintMore Go.Proofs.Ytndffnacbfdnoaa.Plain
attribute [local go_sem] max2_int min2_int max_two min_two max_three min_three max_four min_four
set_option linter.unusedVariables false
set_option linter.unusedSimpArgs false
def mk86 (K : Int) : S86 := ⟨⟨K, K + 1, K + 2, K + 3, K + 4⟩, ⟨K + 5, K + 6, K + 7⟩, K + 8, K + 9⟩
def marks (K : Int) : Nat → List S86
 | 0 => []
 | n + 1 => mk86 K :: marks (K + 10) n
theorem set10 (W : World) (g o : Nat) (v0 v1 v2 v3 v4 v5 v6 v7 v8 v9 : Value) : W.setCells g (o + 0) [v0, v1, v2, v3, v4, v5, v6, v7, v8, v9] = ((((((((((W.setCell ⟨g, o, none⟩ v0).setCell ⟨g, o + 1, none⟩ v1).setCell ⟨g, o + 2, none⟩ v2).setCell ⟨g, o + 3, none⟩ v3).setCell ⟨g, o + 4, none⟩ v4).setCell ⟨g, o + 5, none⟩ v5).setCell ⟨g, o + 6, none⟩ v6).setCell ⟨g, o + 7, none⟩ v7).setCell ⟨g, o + 8, none⟩ v8).setCell ⟨g, o + 9, none⟩ v9) := rfl
theorem set_mid86 (A B : List S86) (x y : S86) : (A ++ x :: B).set A.length y = (A ++ [y]) ++ B := by simp
theorem marks_len : ∀ (n : Nat) (K : Int), (marks K n).length = n
 | 0, _ => rfl
 | n + 1, K => by simp [marks, marks_len n]
theorem marks_snoc : ∀ (n : Nat) (K : Int), marks K (n + 1) = marks K n ++ [mk86 (K + 10 * n)]
 | 0, K => by simp [marks]
 | n + 1, K => by
  have h := marks_snoc n (K + 10)
  show mk86 K :: marks (K + 10) (n + 1) = (mk86 K :: marks (K + 10) n) ++ [_]
  rw [h, List.cons_append, show K + 10 + 10 * (n : Int) = K + 10 * ((n + 1 : Nat) : Int) by omega]
theorem marks_step (l0 row : List S86) (a1 K x : Int) (k1 : Nat) (h : 0 ≤ x ∧ x.toNat + (k1 + 1) = l0.length ∧ K = a1 + 10 * x ∧ row = marks a1 x.toNat ++ l0.drop x.toNat ∧ row.length = l0.length) :
  0 ≤ x + 1 ∧ (x + 1).toNat + k1 = l0.length ∧ K + 10 = a1 + 10 * (x + 1) ∧ row.set x.toNat (mk86 K) = marks a1 (x + 1).toNat ++ l0.drop (x + 1).toNat ∧ (row.set x.toNat (mk86 K)).length = l0.length := by
 obtain ⟨h0, h1, h2, h3, h4⟩ := h
 have hl : x.toNat < l0.length := by omega
 have hn : (x + 1).toNat = x.toNat + 1 := by omega
 refine ⟨by omega, by omega, by omega, ?_, by rw [List.length_set]; exact h4⟩
 have h5 := set_mid86 (marks a1 x.toNat) (l0.drop (x.toNat + 1)) l0[x.toNat] (mk86 K)
 rw [marks_len] at h5
 have hK : mk86 (a1 + 10 * (x.toNat : Int)) = mk86 K := by congr 1; omega
 rw [h3, List.drop_eq_getElem_cons hl, hn, marks_snoc, hK]
 exact h5
def laws_markMomentS.f (k : Nat) (l0 : List S86) (a1 : Int) : Option (Int × List S86) := if 0 ≤ a1 ∧ a1 + 10 * (l0.length : Int) ≤ 1000000000000000 then some (a1 + 10 * (l0.length : Int), marks a1 l0.length) else none
set_option maxHeartbeats 8000000 in
set_option maxRecDepth 100000 in
theorem laws_markMomentS.calls (k : Nat) (P0_ : Nat → Prop) (u9000_ : Value) (l0 : List (S86)) (a1 : Int) (r1 : Int) (r2 : List (S86)) (w0 w : World) (hB : Below w0.heap.size w0 w) (ho0 : Kd.R k86 86 w w0.heap.size P0_ u9000_ l0) (h : laws_markMomentS.f k l0 a1 = some (r1, r2)) :
  Calls Try.prog 44 #[u9000_, .int .i64 a1] w fun e w' => e = .returned (.int .i64 r1) ∧ Kd.R k86 86 w' w0.heap.size (fun k_ => (P0_ k_ ∨ w.heap.size ≤ k_)) u9000_ r2 ∧ Below w0.heap.size w0 w' ∧ Kept w w' (fun k_ => P0_ k_) := by
 unfold laws_markMomentS.f at h
 by_cases hb : 0 ≤ a1 ∧ a1 + 10 * (l0.length : Int) ≤ 1000000000000000
 ·rw [if_pos hb] at h
  have h := Option.some.inj h
  injection h with e1 e2
  subst e1
  subst e2
  obtain ⟨A, c, hv⟩ := Kd.R_slice ho0
  subst hv
  have HBD := Aside0.mk hb
  clear hb
  go_enter Try.func44, Try.ntmps44
  go_wp2
  go_loopg [1, 5] l0.length (fun kq v1 v5 w' => ∃ (x K : Int) (row : List S86), v1 = .int .i64 K ∧ v5 = .int .i64 x ∧ Aside0 (0 ≤ x ∧ x.toNat + kq = l0.length ∧ K = a1 + 10 * x ∧ row = marks a1 x.toNat ++ l0.drop x.toNat ∧ row.length = l0.length) ∧ Aside0 (Kd.R k86 86 w' w0.heap.size P0_ (.slice A l0.length c) row) ∧ Aside0 (Kept w w' (fun k_ => P0_ k_)) ∧ Aside0 (Below w0.heap.size w0 w'))
  case atStart => exact ⟨0, a1, l0, rfl, rfl, ⟨by omega, by simp, by omega, by simp [marks], rfl⟩, ⟨ho0⟩, ⟨Kept.refl _ _⟩, ⟨hB⟩⟩
  case round =>
   obtain ⟨x, K, row, rfl, rfl, HX, HO, HK, HB⟩ := hrel
   by_cases hx : x < (l0.length : Int)
   ·obtain ⟨k1, rfl⟩ : ∃ k1, gk = k1 + 1 := ⟨gk - 1, by have := HX.out; omega⟩
    have c1 : decide (x < (l0.length : Int)) = true := decide_eq_true hx
    obtain ⟨g, cap, he, hg1, hg2, -⟩ := Kd.R_form HO.out (by have := HX.out; omega)
    injection he with ea en ec
    subst ea
    clear en ec
    obtain ⟨cc, hcl, hM, hcc, hfr⟩ := Kd.R_elem HO.out z86 x HX.out.1 hx
    have hMo := k86_openM hM
    have HS0 := (Kd.R_seg HO.out x HX.out.1 hx (seg := [.int .i64 K, .int .i64 (K + 1), .int .i64 (K + 2), .int .i64 (K + 3), .int .i64 (K + 4), .int .i64 (K + 5), .int .i64 (K + 6), .int .i64 (K + 7), .int .i64 (K + 8), .int .i64 (K + 9)]) (j := 0) hcl hcc (show 10 ≤ 10 from Nat.le_refl _) (x' := mk86 K) (by rw [hMo]; exact k86_mkM _ _ _ (mk86 K)) (fun _ hk => hk)).1
    rw [set10, show k86.sz = 10 from rfl] at HS0
    have HS := Aside0.mk HS0
    clear HS0
    have HP0 : Aside0 (P0_ g) := ⟨HO.out.1 g rfl⟩
    have HG1 := Aside0.mk hg1
    have hsz : k86.sz = 10 := rfl
    rw [hsz] at hcc hfr
    have y0 := hcc 0 _ (by rw [hMo]; rfl)
    have z0 := hfr 0
    have y1 := hcc 1 _ (by rw [hMo]; rfl)
    have z1 := hfr 1
    have y2 := hcc 2 _ (by rw [hMo]; rfl)
    have z2 := hfr 2
    have y3 := hcc 3 _ (by rw [hMo]; rfl)
    have z3 := hfr 3
    have y4 := hcc 4 _ (by rw [hMo]; rfl)
    have z4 := hfr 4
    have y5 := hcc 5 _ (by rw [hMo]; rfl)
    have z5 := hfr 5
    have y6 := hcc 6 _ (by rw [hMo]; rfl)
    have z6 := hfr 6
    have y7 := hcc 7 _ (by rw [hMo]; rfl)
    have z7 := hfr 7
    have y8 := hcc 8 _ (by rw [hMo]; rfl)
    have z8 := hfr 8
    have y9 := hcc 9 _ (by rw [hMo]; rfl)
    have z9 := hfr 9
    rw [Nat.add_zero] at y0 z0
    have p1 : (0 ≤ x) = True := eq_true HX.out.1
    have q1 : (x < (l0.length : Int)) = True := eq_true hx
    have w1 : wrap64 (K + 1) = K + 1 := w64 (by have := HX.out; have := HBD.out; omega) (by have := HX.out; have := HBD.out; omega)
    have w2 : wrap64 (K + 2) = K + 2 := w64 (by have := HX.out; have := HBD.out; omega) (by have := HX.out; have := HBD.out; omega)
    have w3 : wrap64 (K + 3) = K + 3 := w64 (by have := HX.out; have := HBD.out; omega) (by have := HX.out; have := HBD.out; omega)
    have w4 : wrap64 (K + 4) = K + 4 := w64 (by have := HX.out; have := HBD.out; omega) (by have := HX.out; have := HBD.out; omega)
    have w5 : wrap64 (K + 5) = K + 5 := w64 (by have := HX.out; have := HBD.out; omega) (by have := HX.out; have := HBD.out; omega)
    have w6 : wrap64 (K + 6) = K + 6 := w64 (by have := HX.out; have := HBD.out; omega) (by have := HX.out; have := HBD.out; omega)
    have w7 : wrap64 (K + 7) = K + 7 := w64 (by have := HX.out; have := HBD.out; omega) (by have := HX.out; have := HBD.out; omega)
    have w8 : wrap64 (K + 8) = K + 8 := w64 (by have := HX.out; have := HBD.out; omega) (by have := HX.out; have := HBD.out; omega)
    have w9 : wrap64 (K + 9) = K + 9 := w64 (by have := HX.out; have := HBD.out; omega) (by have := HX.out; have := HBD.out; omega)
    have w10 : wrap64 (K + 10) = K + 10 := w64 (by have := HX.out; have := HBD.out; omega) (by have := HX.out; have := HBD.out; omega)
    have av1 : wrap64 (K + 1 + 1) = K + 2 := by rw [show K + 1 + 1 = K + 2 by omega]; exact w2
    have av2 : wrap64 (K + 2 + 1) = K + 3 := by rw [show K + 2 + 1 = K + 3 by omega]; exact w3
    have av3 : wrap64 (K + 3 + 1) = K + 4 := by rw [show K + 3 + 1 = K + 4 by omega]; exact w4
    have av4 : wrap64 (K + 4 + 1) = K + 5 := by rw [show K + 4 + 1 = K + 5 by omega]; exact w5
    have av5 : wrap64 (K + 5 + 1) = K + 6 := by rw [show K + 5 + 1 = K + 6 by omega]; exact w6
    have av6 : wrap64 (K + 6 + 1) = K + 7 := by rw [show K + 6 + 1 = K + 7 by omega]; exact w7
    have av7 : wrap64 (K + 7 + 1) = K + 8 := by rw [show K + 7 + 1 = K + 8 by omega]; exact w8
    have av8 : wrap64 (K + 8 + 1) = K + 9 := by rw [show K + 8 + 1 = K + 9 by omega]; exact w9
    have av9 : wrap64 (K + 9 + 1) = K + 10 := by rw [show K + 9 + 1 = K + 10 by omega]; exact w10
    have wx : wrap64 (x + 1) = x + 1 := w64 (by have := HX.out; omega) (by have := HX.out; have := HBD.out; omega)
    have HLX := Aside0.mk hx
    clear hx
    clear hM hcl hMo hcc hfr
    go_wp2
    go_roundg k1
    case measure => omega
    case rel =>
     have hj := marks_step l0 row a1 K x k1 HX.out
     refine ⟨x + 1, K + 10, row.set x.toNat (mk86 K), ?_, ?_, ⟨hj⟩, HS, ⟨((((((((((HK.out).setCell (.inl HP0.out) _).setCell (.inl HP0.out) _).setCell (.inl HP0.out) _).setCell (.inl HP0.out) _).setCell (.inl HP0.out) _).setCell (.inl HP0.out) _).setCell (.inl HP0.out) _).setCell (.inl HP0.out) _).setCell (.inl HP0.out) _).setCell (.inl HP0.out) _⟩, ⟨below_set (below_set (below_set (below_set (below_set (below_set (below_set (below_set (below_set (below_set (HB.out) HG1.out) HG1.out) HG1.out) HG1.out) HG1.out) HG1.out) HG1.out) HG1.out) HG1.out) HG1.out⟩⟩
     ·rw [av9]
     ·rw [wx]
   ·have c1 : decide (x < (l0.length : Int)) = false := decide_eq_false hx
    have hdr : l0.drop x.toNat = [] := List.drop_of_length_le (by have := HX.out; omega)
    have hxl : x.toNat = l0.length := by have := HX.out; omega
    have HROW : Aside0 (row = marks a1 l0.length) := ⟨by rw [HX.out.2.2.2.1, hdr, hxl, List.append_nil]⟩
    have HKK : Aside0 (K = a1 + 10 * (l0.length : Int)) := ⟨by have := HX.out; omega⟩
    clear hdr hxl
    go_wp2
    go_ret
    exact ⟨by rw [← HKK.out]; rfl, by rw [← HROW.out]; exact Kd.R_mono HO.out (fun _ h => .inl h), HB.out, HK.out⟩
 ·rw [if_neg hb] at h
  exact absurd h (by simp)
end Go.Proofs.Ytndffnacbfdnoaa.PAll
