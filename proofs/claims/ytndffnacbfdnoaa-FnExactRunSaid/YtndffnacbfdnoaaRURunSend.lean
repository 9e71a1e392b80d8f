-- Lines of RunSend that this claim uses.
import Derived.Test.YtndffnacbfdnoaaRURunPk
import Derived.Test.YtndffnacbfdnoaaRUSqd
import Derived.Test.YtndffnacbfdnoaaRUPlain
namespace Go.Proofs.Ytndffnacbfdnoaa.PAll
open Go.RowKit Go.Proofs.YtndffnacbfdnoaaW.PrintWords Go.Proofs.YtndffnacbfdnoaaW.PrintLast Go.Proofs.YtndffnacbfdnoaaW.PrintMore
attribute [local go_sem] max2_int min2_int max_two min_two max_three min_three max_four min_four
set_option linter.unusedVariables false
set_option linter.unusedSimpArgs false
def put133 (rows : List (List S133)) (i : Nat) (x : S133) : List (List S133) := rows.set i (rows.getD i [] ++ [x])
def sendP (now ticks : Int) (x : S133) : List Int → List (List S133) → List (List S133)
 | [], rows => rows
 | d :: f, rows => sendP now ticks x f (if now + d ≤ ticks then put133 rows (now + d).toNat x else rows)
def sendL (fa : List (List Int)) (now ticks : Int) : List S60 → Int → List (List S133) → List (List S133) × Int
 | [], n, rows => (rows, n)
 | p :: l, n, rows => sendL fa now ticks l (n + 1) (if n < (fa.length : Int) then sendP now ticks ⟨p, n⟩ (rd_L5 fa n) rows else rows)
abbrev kc133 : Kd (List S133) := Kd.slice 133 k133
theorem add_blk (a : Addr) (n : Nat) : (a.add n).block = a.block := by unfold Addr.add; split <;> rfl
theorem S_apart {α : Type} {d : Kd α} {e base g : Nat} {W w1 : World} {ok : Nat → Prop} {v : Value} {xs : List α} (h : Kd.S d e W base ok v xs) (hg : g = W.heap.size) (hb : Below W.heap.size W w1) : Kd.S d e w1 base (fun k => ok k ∧ k ≠ g) v xs :=
 Kd.S_below (Kd.S_mono (Kd.S_bound h) (fun k hk => ⟨hk.1, by have := hk.2.2.1; omega⟩)) hb
theorem sendP_len (now ticks : Int) (x : S133) : ∀ (f : List Int) (rows : List (List S133)), (sendP now ticks x f rows).length = rows.length
 | [], _ => rfl
 | d :: f, rows => by
  unfold sendP
  rw [sendP_len now ticks x f]
  split
  ·simp [put133]
  ·rfl
theorem put133_mem {rows : List (List S133)} {i : Nat} {x : S133} {r : List S133} {m : Nat} (hM : ∀ r, r ∈ rows → r.length ≤ m) (hr : r ∈ put133 rows i x) : r.length ≤ m + 1 := by
 rcases List.mem_or_eq_of_mem_set hr with h | h
 ·have := hM r h; omega
 ·subst h
  rw [List.length_append, List.getD_eq_getElem?_getD]
  cases hi : rows[i]? with
  | none => simp
  | some q => have := hM q (List.mem_of_getElem? hi); simp; omega
theorem sendP_mem (now ticks : Int) (x : S133) : ∀ (f : List Int) (rows : List (List S133)) (m : Nat), (∀ r, r ∈ rows → r.length ≤ m) → ∀ r, r ∈ sendP now ticks x f rows → r.length ≤ m + f.length
 | [], rows, m, hM, r, hr => hM r hr
 | d :: f, rows, m, hM, r, hr => by
  unfold sendP at hr
  have h := sendP_mem now ticks x f _ (m + 1) (fun q hq => ?_) r hr
  ·simp; omega
  ·split at hq
   ·exact put133_mem hM hq
   ·have := hM q hq; omega
set_option maxHeartbeats 8000000 in
set_option maxRecDepth 100000 in
theorem send_calls (w0 w : World) (ok okl : Nat → Prop) (g cap : Nat) (rows : List (List S133)) (now ticks : Int) (A : Option Addr) (c : Nat) (l : List S60) (gn gf gt : Nat) (n : Int) (A2 : Option Addr) (c2 : Nat) (l2 : List (List Int)) (M : Nat)
  (hS : Kd.S kc133 131 w w0.heap.size ok (.slice (some ⟨g, 0, none⟩) rows.length cap) rows) (hrl : (rows.length : Int) = ticks + 1)
  (hl : Kd.F k60 w okl A l.length l) (hc : l.length ≤ c) (hdis : ∀ k, okl k → ¬ ok k) (hfr : ∀ k, w.heap.size ≤ k → ok k)
  (BKn : w.heap[gn]? = some (.cells #[.int .i64 n] 3 (0, 0))) (BKf : w.heap[gf]? = some (.cells #[.slice A2 l2.length c2] 65 (0, 0))) (BKt : w.heap[gt]? = some (.cells #[.int .i64 ticks] 3 (0, 0)))
  (hgn : w0.heap.size ≤ gn) (hon : ¬ ok gn) (hof : ¬ ok gf) (hot : ¬ ok gt) (hln : ¬ okl gn) (hfn : gf ≠ gn) (htn : gt ≠ gn)
  (h2 : Kd.C (Kd.slice 3 (Kd.int .i64)) w0 A2 l2.length l2) (hB : Below w0.heap.size w0 w)
  (hnow : 1 ≤ now) (hnow2 : now ≤ 2000) (hti : ticks ≤ 2000) (hn0 : 0 ≤ n) (hn1 : n + l.length ≤ 1000000000) (hl1 : l.length ≤ 1000000)
  (hfa : ∀ f, f ∈ l2 → f.length ≤ 10 ∧ ∀ d, d ∈ f → 1 ≤ d ∧ d ≤ 1000)
  (hM : ∀ r, r ∈ rows → r.length ≤ M) (hM1 : M + 10 * l.length ≤ 1000000000) :
  Calls Try.prog 85 #[.slice (some ⟨g, 0, none⟩) rows.length cap, .int .i64 now, .slice A l.length c, .pointer (some ⟨gn, 0, none⟩), .pointer (some ⟨gf, 0, none⟩), .pointer (some ⟨gt, 0, none⟩)] w fun e w' => ∃ v_ : Value, e = .returned v_ ∧
   Kd.S kc133 131 w' w0.heap.size ok (.slice (some ⟨g, 0, none⟩) rows.length cap) (sendL l2 now ticks l n rows).1 ∧ w'.heap[gn]? = some (.cells #[.int .i64 (sendL l2 now ticks l n rows).2] 3 (0, 0)) ∧
   Kept w w' (fun k => ok k ∨ k = gn) ∧ Below w0.heap.size w0 w' := by
 go_enter Try.func85, Try.ntmps85
 go_wp2
 go_loopg [15] l.length (fun kq v15 w' => ∃ (x : Int) (ni : Int) (ri : List (List S133)), v15 = .int .i64 x ∧ Aside0 (sendL l2 now ticks (l.drop x.toNat) ni ri = sendL l2 now ticks l n rows) ∧ Aside0 (0 ≤ x ∧ x.toNat + kq = l.length ∧ ni = n + x ∧ ri.length = rows.length ∧ ∀ r, r ∈ ri → r.length ≤ M + 10 * x.toNat) ∧ Aside0 (Kd.S kc133 131 w' w0.heap.size ok (.slice (some ⟨g, 0, none⟩) rows.length cap) ri) ∧ Aside0 (w'.heap[gn]? = some (.cells #[.int .i64 ni] 3 (0, 0))) ∧ Aside0 (Kept w w' (fun k => ok k ∨ k = gn)) ∧ Aside0 (Below w0.heap.size w0 w'))
 case atStart => exact ⟨0, n, rows, rfl, ⟨by simp⟩, ⟨by omega, by simp, by simp, rfl, by simpa using hM⟩, ⟨hS⟩, ⟨BKn⟩, ⟨Kept.refl _ _⟩, ⟨hB⟩⟩
 case round =>
  obtain ⟨x, ni, ri, rfl, HA, HI, HS, HN, HK, HB⟩ := hrel
  have hlC : Kd.C k60 wr A l.length l := Kd.F_now (Kd.F_kept hl HK.out (fun k hk h => h.elim (hdis k hk) (fun e => hln (e ▸ hk))))
  have cn : wr.cell? ⟨gn, 0, none⟩ = some (.int .i64 ni) := b0 HN
  have BF := Aside0.mk (blk_kept BKf HK.out (fun h => h.elim hof hfn))
  have BT := Aside0.mk (blk_kept BKt HK.out (fun h => h.elim hot htn))
  have cf_ : wr.cell? ⟨gf, 0, none⟩ = some (.slice A2 l2.length c2) := b0 BF
  have ct : wr.cell? ⟨gt, 0, none⟩ = some (.int .i64 ticks) := b0 BT
  by_cases hlt : x < (l.length : Int)
  ·have h0x : 0 ≤ x := HI.out.1
   obtain ⟨k1, rfl⟩ : ∃ k1, gk = k1 + 1 := ⟨gk - 1, by have := HI.out; omega⟩
   have c2b0 : decide (x < (l.length : Int)) = true := decide_eq_true hlt
   obtain ⟨ad1, e1, hx0, hx1, hx2, hx3⟩ := at_T60 hlC x h0x hlt
   cases e1
   have p1 : (0 ≤ x) = True := eq_true h0x
   have q1 : (x < (l.length : Int)) = True := eq_true hlt
   have HX := Aside0.mk hlt
   have hwn : wrap64 (ni + 1) = ni + 1 := Go.Proofs.Ytndffnacbfdnoaa.Plain.w64 (by have := HI.out; omega) (by have := HI.out; omega)
   have hwx : wrap64 (x + 1) = x + 1 := Go.Proofs.Ytndffnacbfdnoaa.Plain.w64 (by omega) (by omega)
   have hdrop : l.drop x.toNat = rd_T60 l x :: l.drop (x + 1).toNat := by
    have h1 : x.toNat < l.length := by omega
    rw [List.drop_eq_getElem_cons h1, show (x + 1).toNat = x.toNat + 1 by omega]
    simp [rd_T60, List.getD_eq_getElem?_getD, h1]
   have HA2 : Aside0 (sendL l2 now ticks (l.drop (x + 1).toNat) (ni + 1) (if ni < (l2.length : Int) then sendP now ticks ⟨rd_T60 l x, ni⟩ (rd_L5 l2 ni) ri else ri) = sendL l2 now ticks l n rows) := ⟨by rw [← HA.out, hdrop]; rfl⟩
   clear hlt h0x hdrop
   by_cases hnf : ni < (l2.length : Int)
   ·have c5 : decide (ni < (l2.length : Int)) = true := decide_eq_true hnf
    have h0n : 0 ≤ ni := by have := HI.out; omega
    obtain ⟨ad2, Af, cf2, e2, hy0, hyl, hyi⟩ := at_L5 h2 ni h0n hnf
    cases e2
    have hyb := World.block_lt_of_cell? w0 _ hy0
    have p2 : (0 ≤ ni) = True := eq_true h0n
    have q2 : (ni < (l2.length : Int)) = True := eq_true hnf
    have HF := Aside0.mk (hfa (rd_L5 l2 ni) (by
     have h1 : ni.toNat < l2.length := by omega
     rw [show rd_L5 l2 ni = l2[ni.toNat] by simp [rd_L5, List.getD_eq_getElem?_getD, h1]]
     exact List.getElem_mem h1))
    rw [if_pos hnf] at HA2
    have HNF := Aside0.mk hnf
    clear hnf h0n
    go_wp2_with (first | ((with_reducible refine gate_dst (N := 10) rfl ?_); refine boxA #[.int .i64 0, .int .i64 0, .int .i64 0, .int .i64 0] 60 ?_; intro gb hg w1 hbox hb; have NN := nlt HN hg; have NF := nlt BF hg; have NT := nlt BT hg; have GE : w.heap.size ≤ gb := hg ▸ HK.out.1; have BP := Aside0.mk hbox; replace HN := bkb HN hb; replace BF := bkb BF hb; replace BT := bkb BT hb; replace HS := Aside0.mk (S_apart HS.out hg hb); replace HK := Aside0.mk (Kept.below HK.out hb); have HB1 := bst HB hb; clear HB; have HB := HB1; clear HB1; have hnb1 := NN.out; have hnb2 := NF.out; have hnb3 := NT.out; have cn := b0 HN; have cf_ := b0 BF; have ct := b0 BT; have c0 := b0 BP; have c1 := b1 BP; have c2_ := b2 BP; have c3 := b3 BP; have z0 := blk_frozen BP.out 0; have z1 := blk_frozen BP.out 1; have z2 := blk_frozen BP.out 2; have z3 := blk_frozen BP.out 3; have z4 := blk_frozen HN.out 0; have hnb4 : (ad2.add ni.toNat).block ≠ gb := (by have := hB.size; omega); have hnb5 : ad2.block ≠ gb := (by rw [add_blk] at hnb4; exact hnb4); have hy0 := (HB.out.cell hyb).trans hy0; have hyS : ((((w1.setCell ⟨gb, 0, none⟩ (.int .i64 (rd_T60 l x).f0)).setCell ⟨gb, 1, none⟩ (.int .i64 (rd_T60 l x).f1)).setCell ⟨gb, 2, none⟩ (.int .i64 (rd_T60 l x).f2)).setCell ⟨gb, 3, none⟩ (.int .i64 (rd_T60 l x).f3)).cell? (ad2.add ni.toNat) = some (.slice Af (rd_L5 l2 ni).length cf2) := (cell_far (p := ⟨gb, 3, none⟩) hnb4 _).trans ((cell_far (p := ⟨gb, 2, none⟩) hnb4 _).trans ((cell_far (p := ⟨gb, 1, none⟩) hnb4 _).trans ((cell_far (p := ⟨gb, 0, none⟩) hnb4 _).trans hy0))); clear hg hb hbox))
    go_loopg [28] (rd_L5 l2 ni).length (fun kq v28 w' => ∃ (y : Int) (rj : List (List S133)), v28 = .int .i64 y ∧ Aside0 (sendP now ticks ⟨rd_T60 l x, ni⟩ ((rd_L5 l2 ni).drop y.toNat) rj = sendP now ticks ⟨rd_T60 l x, ni⟩ (rd_L5 l2 ni) ri) ∧ Aside0 (0 ≤ y ∧ y.toNat + kq = (rd_L5 l2 ni).length ∧ rj.length = rows.length ∧ ∀ r, r ∈ rj → r.length ≤ M + 10 * x.toNat + y.toNat) ∧ Aside0 (Kd.S kc133 131 w' w0.heap.size (fun k => ok k ∧ k ≠ gb) (.slice (some ⟨g, 0, none⟩) rows.length cap) rj) ∧ Aside0 (w'.heap[gn]? = some (.cells #[.int .i64 ni] 3 (0, 0))) ∧ Aside0 (w'.heap[gb]? = some (.cells #[.int .i64 (rd_T60 l x).f0, .int .i64 (rd_T60 l x).f1, .int .i64 (rd_T60 l x).f2, .int .i64 (rd_T60 l x).f3] 60 (0, 0))) ∧ Aside0 (Kept w w' (fun k => ok k ∨ k = gn)) ∧ Aside0 (Below w0.heap.size w0 w'))
    case atStart =>
     have hi := HI.out
     exact ⟨0, ri, rfl, ⟨by simp⟩, ⟨by omega, by simp, hi.2.2.2.1, fun r hr => by have := hi.2.2.2.2 r hr; omega⟩, ⟨Kd.S_far (p := ⟨gb, 3, none⟩) (Kd.S_far (p := ⟨gb, 2, none⟩) (Kd.S_far (p := ⟨gb, 1, none⟩) (Kd.S_far (p := ⟨gb, 0, none⟩) HS.out (fun _ h => h.2) _) (fun _ h => h.2) _) (fun _ h => h.2) _) (fun _ h => h.2) _⟩,
      ⟨blk_far (blk_far (blk_far (blk_far HN.out NN.out _) NN.out _) NN.out _) NN.out _⟩,
      ⟨blk_put (cs := #[.int .i64 (rd_T60 l x).f0, .int .i64 (rd_T60 l x).f1, .int .i64 (rd_T60 l x).f2, .int .i64 0]) (blk_put (cs := #[.int .i64 (rd_T60 l x).f0, .int .i64 (rd_T60 l x).f1, .int .i64 0, .int .i64 0]) (blk_put (cs := #[.int .i64 (rd_T60 l x).f0, .int .i64 0, .int .i64 0, .int .i64 0]) (blk_put (cs := #[.int .i64 0, .int .i64 0, .int .i64 0, .int .i64 0]) BP.out 0 _ rfl) 1 _ rfl) 2 _ rfl) 3 _ rfl⟩,
      ⟨(((HK.out.setCell (p := ⟨gb, 0, none⟩) (.inr GE) _).setCell (p := ⟨gb, 1, none⟩) (.inr GE) _).setCell (p := ⟨gb, 2, none⟩) (.inr GE) _).setCell (p := ⟨gb, 3, none⟩) (.inr GE) _⟩,
      ⟨below_set (below_set (below_set (below_set HB.out (Nat.le_trans hB.size GE)) (Nat.le_trans hB.size GE)) (Nat.le_trans hB.size GE)) (Nat.le_trans hB.size GE)⟩⟩
    case round =>
     clear hyS hy0 hx0 hx1 hx2 hx3 cn cf_ ct c0 c1 c2_ c3 z0 z1 z2 z3 z4 HB HK HS BP hlC
     obtain ⟨y, rj, rfl, HA3, HJ, HS, HN, BP, HK, HB⟩ := hrel
     replace BF := Aside0.mk (blk_kept BKf HK.out (fun h => h.elim hof hfn))
     replace BT := Aside0.mk (blk_kept BKt HK.out (fun h => h.elim hot htn))
     have cn := b0 HN
     have ct := b0 BT
     have c0 := b0 BP
     have c1 := b1 BP
     have c2_ := b2 BP
     have c3 := b3 BP
     have z4 := blk_frozen HN.out 0
     have hfC := Kd.C_below hyi HB.out
     by_cases hy : y < ((rd_L5 l2 ni).length : Int)
     ·have h0y : 0 ≤ y := HJ.out.1
      obtain ⟨k2, rfl⟩ : ∃ k2, gk = k2 + 1 := ⟨gk - 1, by have := HJ.out; omega⟩
      have c6 : decide (y < ((rd_L5 l2 ni).length : Int)) = true := decide_eq_true hy
      obtain ⟨ad3, e3, hd⟩ := Kd.at_int hfC y h0y hy
      cases e3
      have hdm := HF.out.2 (rd (rd_L5 l2 ni) y) (by
       have h1 : y.toNat < (rd_L5 l2 ni).length := by omega
       rw [show rd (rd_L5 l2 ni) y = (rd_L5 l2 ni)[y.toNat] by simp [rd, List.getD_eq_getElem?_getD, h1]]
       exact List.getElem_mem h1)
      have hwd : wrap64 (now + rd (rd_L5 l2 ni) y) = now + rd (rd_L5 l2 ni) y := Go.Proofs.Ytndffnacbfdnoaa.Plain.w64 (by omega) (by omega)
      have hwy : wrap64 (y + 1) = y + 1 := Go.Proofs.Ytndffnacbfdnoaa.Plain.w64 (by omega) (by have := HF.out.1; omega)
      have hdrop : (rd_L5 l2 ni).drop y.toNat = rd (rd_L5 l2 ni) y :: (rd_L5 l2 ni).drop (y + 1).toNat := by
       have h1 : y.toNat < (rd_L5 l2 ni).length := by omega
       rw [List.drop_eq_getElem_cons h1, show (y + 1).toNat = y.toNat + 1 by omega]
       simp [rd, List.getD_eq_getElem?_getD, h1]
      have HA4 : sendP now ticks ⟨rd_T60 l x, ni⟩ ((rd_L5 l2 ni).drop (y + 1).toNat) (if now + rd (rd_L5 l2 ni) y ≤ ticks then put133 rj (now + rd (rd_L5 l2 ni) y).toNat ⟨rd_T60 l x, ni⟩ else rj) = sendP now ticks ⟨rd_T60 l x, ni⟩ (rd_L5 l2 ni) ri := by rw [← HA3.out, hdrop]; rfl
      have p6 : (0 ≤ y) = True := eq_true h0y
      have q6 : (y < ((rd_L5 l2 ni).length : Int)) = True := eq_true hy
      have HY := Aside0.mk hy
      by_cases hle : now + rd (rd_L5 l2 ni) y ≤ ticks
      ·have c7 : decide (now + rd (rd_L5 l2 ni) y ≤ ticks) = true := decide_eq_true hle
       rw [if_pos hle] at HA4
       have HA5 := Aside0.mk HA4
       have hrw : ((now + rd (rd_L5 l2 ni) y).toNat : Int) < rows.length := by omega
       obtain ⟨oki, cE, hcl, hM, hcc, hfr0, hoki, hH⟩ := Kd.S_elem HS.out ([] : List S133) (now + rd (rd_L5 l2 ni) y) (by omega) (by omega)
       obtain ⟨vi, rfl, hR⟩ := hM
       have hc0 := hcc 0 vi rfl
       rw [show kc133.sz = 1 from rfl, Nat.mul_one, Nat.add_zero] at hc0
       have hfz := hfr0 0
       rw [show kc133.sz = 1 from rfl, Nat.mul_one, Nat.add_zero] at hfz
       have p8 : (0 ≤ now + rd (rd_L5 l2 ni) y) = True := eq_true (by omega)
       have q8 : (now + rd (rd_L5 l2 ni) y < ticks + 1) = True := eq_true (by omega)
       clear HA4 hdrop
       go_wp2
       have hfz3 : wr.drew.frozen? ⟨g, (now + rd (rd_L5 l2 ni) y).toNat, none⟩ = false := hfz
       refine start_ (n := 17) (S := fun w' => w'.cell? ⟨g, (now + rd (rd_L5 l2 ni) y).toNat, none⟩ = some vi ∧ w'.cell? ⟨gb, 0, none⟩ = some (.int .i64 (rd_T60 l x).f0) ∧ w'.cell? ⟨gb, 1, none⟩ = some (.int .i64 (rd_T60 l x).f1) ∧ w'.cell? ⟨gb, 2, none⟩ = some (.int .i64 (rd_T60 l x).f2) ∧ w'.cell? ⟨gb, 3, none⟩ = some (.int .i64 (rd_T60 l x).f3) ∧ w'.cell? ⟨gn, 0, none⟩ = some (.int .i64 ni)) (ds := [16]) #[false, false, false, false, false, false, false, false, false, false, false, false, false, false, false, false, false] (by kernel_rfl) rfl rfl ⟨hc0, c0, c1, c2_, c3, cn⟩ (fun hHeld => ?_)
       clear c0 c1 c2_ c3 cn ct z4 hfC hd hc0 hcc hfr0
       replace hH := Kd.H_drew hH
       replace hR := Kd.R_drew hR
       replace HN := Aside0.mk (blk_drew HN.out)
       replace BP := Aside0.mk (blk_drew BP.out)
       replace HK := Aside0.mk (Kept.drew HK.out)
       replace HB := Aside0.mk (below_drew1 HB.out)
       clear BF BT HS
       generalize wr.drew = w3 at hH hR HN BP HK HB hfz3 hHeld ⊢
       refine pureA 0 37 #[true, false, false, false, false, false, false, false, false, false, false, false, false, false, false, false, false] (by kernel_rfl) ?_
       refine pureA 1 38 #[true, true, false, false, false, false, false, false, false, false, false, false, false, false, false, false, false] (by kernel_rfl) ?_
       refine pureA 2 39 #[true, true, true, false, false, false, false, false, false, false, false, false, false, false, false, false, false] (by kernel_rfl) ?_
       refine pureA 3 40 #[true, true, true, true, false, false, false, false, false, false, false, false, false, false, false, false, false] (by kernel_rfl) ?_
       refine pureA 4 41 #[true, true, true, true, true, false, false, false, false, false, false, false, false, false, false, false, false] (by kernel_rfl) ?_
       refine pureA 5 42 #[true, true, true, true, true, true, false, false, false, false, false, false, false, false, false, false, false] (by kernel_rfl) ?_
       refine pureA 6 43 #[true, true, true, true, true, true, true, false, false, false, false, false, false, false, false, false, false] (by kernel_rfl) ?_
       refine pureA 7 44 #[true, true, true, true, true, true, true, true, false, false, false, false, false, false, false, false, false] (by kernel_rfl) ?_
       refine pureA 8 45 #[true, true, true, true, true, true, true, true, true, false, false, false, false, false, false, false, false] (by kernel_rfl) ?_
       refine takeA 9 46 #[true, true, true, true, true, true, true, true, true, true, false, false, false, false, false, false, false] (by kernel_rfl) hHeld ?_
       refine takeA 10 47 #[true, true, true, true, true, true, true, true, true, true, true, false, false, false, false, false, false] (by kernel_rfl) hHeld ?_
       refine takeA 11 48 #[true, true, true, true, true, true, true, true, true, true, true, true, false, false, false, false, false] (by kernel_rfl) hHeld ?_
       refine pureA 12 49 #[true, true, true, true, true, true, true, true, true, true, true, true, true, false, false, false, false] (by kernel_rfl) ?_
       refine one_ (i := 13) (N := some 50) #[true, true, true, true, true, true, true, true, true, true, true, true, true, true, false, false, false] rfl rfl (by kernel_rfl) (by decide) (fun K hK => ?_)
       refine event_step (w1 := w3.alloc (.cells #[.int .i64 (rd_T60 l x).f0, .int .i64 (rd_T60 l x).f1, .int .i64 (rd_T60 l x).f2, .int .i64 (rd_T60 l x).f3, .int .i64 ni] 133)) (v := .slice (some ⟨w3.heap.size, 0, none⟩) 1 1) (by rfl) (by first | (go_simp; done) | (go_simp; rfl)) ?_
       have hba := below_alloc (Below.refl w3.heap.size w3) (.cells #[.int .i64 (rd_T60 l x).f0, .int .i64 (rd_T60 l x).f1, .int .i64 (rd_T60 l x).f2, .int .i64 (rd_T60 l x).f3, .int .i64 ni] 133)
       refine hK.out _ _ ⟨(hba.cell (World.block_lt_of_cell? w3 _ hHeld.1)).trans hHeld.1, (hba.cell (World.block_lt_of_cell? w3 _ hHeld.2.1)).trans hHeld.2.1, (hba.cell (World.block_lt_of_cell? w3 _ hHeld.2.2.1)).trans hHeld.2.2.1, (hba.cell (World.block_lt_of_cell? w3 _ hHeld.2.2.2.1)).trans hHeld.2.2.2.1, (hba.cell (World.block_lt_of_cell? w3 _ hHeld.2.2.2.2.1)).trans hHeld.2.2.2.2.1, (hba.cell (World.block_lt_of_cell? w3 _ hHeld.2.2.2.2.2)).trans hHeld.2.2.2.2.2⟩ (fun hHeld2 => ?_)
       clear hK K hba hHeld2
       refine normP ?_
       refine one_ (i := 14) (N := some 51) #[true, true, true, true, true, true, true, true, true, true, true, true, true, true, true, false, false] rfl rfl (by kernel_rfl) (by decide) (fun K hK => ?_)
       have hgb := blk_lt BP.out
       have hgn2 := blk_lt HN.out
       have hj := HJ.out
       refine Kd.R_append_step k133 (w0 := w0) (W := w3) w0.heap.size (by rfl) (.tmp 46) (.tmp 50) 131 133 (.agg #[.int .i64 0, .int .i64 0, .int .i64 0, .int .i64 0, .int .i64 0]) 40 rfl Try.underlying131 (by kernel_rfl) rfl (by decide) (by decide) vi (rj.getD (now + rd (rd_L5 l2 ni) y).toNat []) ⟨rd_T60 l x, ni⟩ [.int .i64 (rd_T60 l x).f0, .int .i64 (rd_T60 l x).f1, .int .i64 (rd_T60 l x).f2, .int .i64 (rd_T60 l x).f3, .int .i64 ni] (fun k => oki k ∨ (ok k ∧ k ≠ gb) ∧ w3.heap.size ≤ k) (fun _ => False) rfl rfl (k133_mkM _ _ _ _) (fun _ h => h.elim) (fun k hk => .inr ⟨⟨hfr k (Nat.le_trans HK.out.1 hk), by omega⟩, hk⟩) (Kd.R_mono hR (fun k hk => .inl hk)) HB.out HB.out.size ?_ ?_
       ·have : (rj.getD (now + rd (rd_L5 l2 ni) y).toNat []).length ≤ 1000000000 := by
         rw [List.getD_eq_getElem?_getD]
         cases hi : rj[(now + rd (rd_L5 l2 ni) y).toNat]? with
         | none => simp
         | some q =>
          have h1 := hj.2.2.2 q (List.mem_of_getElem? hi)
          have h2 := HX.out
          have h3 := HF.out.1
          have h4 := HI.out.1
          simp only [Option.getD_some]
          omega
        omega
       intro v1 w4 hR1 hB1 hg1 hat1
       have hrow : ∀ k, vi.ownBlock = some k → oki k := fun k hk => hR.1 k hk
       have hne : ∀ a : Nat, ¬ oki a → some a ≠ vi.ownBlock := fun a ha he => ha (hrow a he.symm)
       have ogb : ¬ oki gb := fun h => (hoki gb h).1.2 rfl
       have ogn : ¬ oki gn := fun h => hon (hoki gn h).1.1
       have og : ¬ oki g := fun h => (hoki g h).2 rfl
       refine hK.out _ _ ⟨cell_grown hg1 hHeld.1 (hne g og), cell_grown hg1 hHeld.2.1 (hne gb ogb), cell_grown hg1 hHeld.2.2.1 (hne gb ogb), cell_grown hg1 hHeld.2.2.2.1 (hne gb ogb), cell_grown hg1 hHeld.2.2.2.2.1 (hne gb ogb), cell_grown hg1 hHeld.2.2.2.2.2 (hne gn ogn)⟩ (fun hHeld3 => ?_)
       clear hK K
       refine normP ?_
       refine pureA 15 52 #[true, true, true, true, true, true, true, true, true, true, true, true, true, true, true, true, false] (by kernel_rfl) ?_
       refine last_ (i := 16) (N := none) #[true, true, true, true, true, true, true, true, true, true, true, true, true, true, true, true, true] rfl rfl (by kernel_rfl) (by decide) (fun K hK => ?_)
       have hsg := hHeld3.1
       obtain ⟨Av, cv, hv1⟩ := Kd.R_slice hR1
       have hfrg : w4.frozen? ⟨g, (now + rd (rd_L5 l2 ni) y).toNat, none⟩ = false := by
        have he : w4.heap[g]? = w3.heap[g]? := hg1.block g (World.block_lt_of_cell? w3 _ hHeld.1) (hne g og)
        unfold World.frozen? at hfz3 ⊢
        rw [he]
        exact hfz3
       refine skip_ (w1 := w4.setCell ⟨g, (now + rd (rd_L5 l2 ni) y).toNat, none⟩ v1) (by rfl) rfl (by subst hv1; first | (go_simp; done) | (go_simp; rfl)) ?_
       clear hv1
       refine hK.out _ _ ?_
       clear hK K
       refine done_ (by kernel_rfl) ?_
       go_wp2
       go_roundg k2
       case measure => omega
       case rel =>
        have hH4 := Kd.H_grown (Kd.H_widen hH) hg1 (fun k hk => .inl (hrow k hk))
        have hst := Kd.S_seg (seg := [v1]) (j := 0) (okg := fun _ => False) (okp := fun k => oki k ∨ (ok k ∧ k ≠ gb) ∧ w3.heap.size ≤ k) (x' := rj.getD (now + rd (rd_L5 l2 ni) y).toNat [] ++ [(⟨rd_T60 l x, ni⟩ : S133)]) (Kd.H_mono hH4 (ok' := fun k => (ok k ∧ k ≠ gb) ∧ ¬ False) (fun k hk => ⟨hk, fun h => h⟩)) (by omega) (by omega) (Nat.le_refl 1) ⟨v1, by simp, hR1⟩ (fun k hk => .inl hk) (fun _ h => h.elim)
        rw [show kc133.sz = 1 from rfl, Nat.mul_one, Nat.add_zero] at hst
        have hSR := Kd.S_bound hst.1
        have hgq := (Kd.S_R hSR).1 g (by simp [Value.ownBlock])
        have hgok : ok g := hgq.1.1
        have hgb2 : gb ≠ g := fun h => hgq.1.2 h.symm
        have hgbase : w0.heap.size ≤ g := hgq.2.1
        have hrow2 : ∀ k, vi.ownBlock = some k → (ok k ∨ k = gn) ∨ w.heap.size ≤ k := fun k hk => .inl (.inl (hoki k (hrow k hk)).1.1)
        exact ⟨y + 1, put133 rj (now + rd (rd_L5 l2 ni) y).toNat ⟨rd_T60 l x, ni⟩, by rw [hwy], HA5, ⟨by omega, by have := HY.out; omega, by simpa [put133] using hj.2.2.1, fun r hr => by have := put133_mem hj.2.2.2 hr; omega⟩,
         ⟨hst.1⟩, ⟨blk_far (blk_grown HN.out hg1 (hne gn ogn)) (p := ⟨g, (now + rd (rd_L5 l2 ni) y).toNat, none⟩) (fun h => hon (h ▸ hgok)) _⟩, ⟨blk_far (blk_grown BP.out hg1 (hne gb ogb)) (p := ⟨g, (now + rd (rd_L5 l2 ni) y).toNat, none⟩) (fun h => hgb2 h) _⟩,
         ⟨(Kept.of_grown hg1 HK.out hrow2).setCell (p := ⟨g, (now + rd (rd_L5 l2 ni) y).toNat, none⟩) (.inl (.inl hgok)) _⟩, ⟨below_set hB1 hgbase⟩⟩
      ·have c7 : decide (now + rd (rd_L5 l2 ni) y ≤ ticks) = false := decide_eq_false hle
       rw [if_neg hle] at HA4
       have HA5 := Aside0.mk HA4
       clear hy h0y hdrop hdm HA4 hle
       go_wp2
       go_roundg k2
       case measure => omega
       case rel =>
        have hj := HJ.out
        exact ⟨y + 1, rj, by rw [hwy], HA5, ⟨by omega, by have := HY.out; omega, hj.2.2.1, fun r hr => by have := hj.2.2.2 r hr; omega⟩, HS, HN, BP, HK, HB⟩
     ·have c6 : decide (y < ((rd_L5 l2 ni).length : Int)) = false := decide_eq_false hy
      have hd : (rd_L5 l2 ni).drop y.toNat = [] := List.drop_of_length_le (by have := HJ.out; omega)
      have HA4 := HA3.out
      rw [hd] at HA4
      have HA5 : Aside0 (rj = sendP now ticks ⟨rd_T60 l x, ni⟩ (rd_L5 l2 ni) ri) := ⟨HA4⟩
      clear HA4 hd hy
      go_wp2
      go_roundg k1
      case measure => omega
      case rel =>
       have hi := HI.out
       have hj := HJ.out
       have hf := HF.out
       rw [← HA5.out] at HA2
       exact ⟨x + 1, ni + 1, rj, by rw [hwx], HA2, ⟨by omega, by have := HX.out; omega, by omega, hj.2.2.1, fun r hr => by have := hj.2.2.2 r hr; omega⟩,
        ⟨Kd.S_mono (Kd.S_far (p := ⟨gn, 0, none⟩) HS.out (fun k h e => hon ((show k = gn from e) ▸ h.1)) _) (fun _ h => h.1)⟩,
        ⟨blk_put (cs := #[.int .i64 ni]) HN.out 0 _ rfl⟩, ⟨HK.out.setCell (p := ⟨gn, 0, none⟩) (.inl (.inr rfl)) _⟩, ⟨below_set HB.out hgn⟩⟩
   ·have c5 : decide (ni < (l2.length : Int)) = false := decide_eq_false hnf
    rw [if_neg hnf] at HA2
    go_wp2_with (first | ((with_reducible refine gate_dst (N := 10) rfl ?_); refine boxA #[.int .i64 0, .int .i64 0, .int .i64 0, .int .i64 0] 60 ?_; intro gb hg w1 hbox hb; have NN := nlt HN hg; have NF := nlt BF hg; have NT := nlt BT hg; have GE : w.heap.size ≤ gb := hg ▸ HK.out.1; have BP := Aside0.mk hbox; replace HN := bkb HN hb; replace BF := bkb BF hb; replace BT := bkb BT hb; replace HS := Aside0.mk (S_apart HS.out hg hb); replace HK := Aside0.mk (Kept.below HK.out hb); have HB1 := bst HB hb; clear HB; have HB := HB1; clear HB1; have hnb1 := NN.out; have hnb2 := NF.out; have hnb3 := NT.out; have cn := b0 HN; have cf_ := b0 BF; have ct := b0 BT; have c0 := b0 BP; have c1 := b1 BP; have c2_ := b2 BP; have c3 := b3 BP; have z0 := blk_frozen BP.out 0; have z1 := blk_frozen BP.out 1; have z2 := blk_frozen BP.out 2; have z3 := blk_frozen BP.out 3; have z4 := blk_frozen HN.out 0; skip; clear hg hb hbox))
    go_roundg k1
    case measure => omega
    case rel =>
     have hi := HI.out
     exact ⟨x + 1, ni + 1, ri, rfl, HA2, ⟨by omega, by omega, by omega, hi.2.2.2.1, fun r hr => by have := hi.2.2.2.2 r hr; omega⟩,
      ⟨Kd.S_mono (Kd.S_far (p := ⟨gn, 0, none⟩) (Kd.S_far (p := ⟨gb, 3, none⟩) (Kd.S_far (p := ⟨gb, 2, none⟩) (Kd.S_far (p := ⟨gb, 1, none⟩) (Kd.S_far (p := ⟨gb, 0, none⟩) HS.out (fun _ h => h.2) _) (fun _ h => h.2) _) (fun _ h => h.2) _) (fun _ h => h.2) _) (fun k h e => hon ((show k = gn from e) ▸ h.1)) _) (fun _ h => h.1)⟩,
      ⟨blk_put (cs := #[.int .i64 ni]) (blk_far (blk_far (blk_far (blk_far HN.out NN.out _) NN.out _) NN.out _) NN.out _) 0 _ rfl⟩,
      ⟨((((HK.out.setCell (p := ⟨gb, 0, none⟩) (.inr GE) _).setCell (p := ⟨gb, 1, none⟩) (.inr GE) _).setCell (p := ⟨gb, 2, none⟩) (.inr GE) _).setCell (p := ⟨gb, 3, none⟩) (.inr GE) _).setCell (p := ⟨gn, 0, none⟩) (.inl (.inr rfl)) _⟩,
      ⟨below_set (below_set (below_set (below_set (below_set HB.out (Nat.le_trans hB.size GE)) (Nat.le_trans hB.size GE)) (Nat.le_trans hB.size GE)) (Nat.le_trans hB.size GE)) hgn⟩⟩
  ·have c2b0 : decide (x < (l.length : Int)) = false := decide_eq_false hlt
   go_wp2
   have hx := HI.out
   have hd : l.drop x.toNat = [] := List.drop_of_length_le (by omega)
   have hA := HA.out
   rw [hd] at hA
   rw [← hA]
   refine bodyPost_end (v := .tuple #[]) (by first | rfl | (simp [results]; done) | (simp [results]; rfl)) rfl ⟨⟨_, rfl⟩, HS.out, HN.out, HK.out, HB.out⟩
end Go.Proofs.Ytndffnacbfdnoaa.PAll
