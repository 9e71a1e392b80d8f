-- Lines of Pkd that this claim uses.
import Derived.Test.YtndffnacbfdnoaaENPAllx15
import Derived.Test.YtndffnacbfdnoaaENPAllx16
import Derived.Test.YtndffnacbfdnoaaENPAllx17
import Derived.Test.YtndffnacbfdnoaaENPAllx18
import Derived.Test.YtndffnacbfdnoaaENPlain
import Derived.Laws.BitsLemmas
set_option linter.unusedSimpArgs false
set_option linter.unusedVariables false
namespace Go.Proofs.Ytndffnacbfdnoaa.Pure
open Go.RowKit Go.Proofs.YtndffnacbfdnoaaW.PrintWords Go.Proofs.YtndffnacbfdnoaaW.PrintLast Go.Proofs.Ytndffnacbfdnoaa.PAll Go.Proofs.Ytndffnacbfdnoaa.Plain
def Bytes (l : List Int) : Prop := ∀ x ∈ l, 0 ≤ x ∧ x ≤ 255
theorem next_some (l : List Int) (hb : Bytes l) (p u : Int) (h0 : 0 ≤ p) (h1 : p < 4611686018427387904) : ∃ v u', spec_l4Cur_next.f l p u = some (v, p + 1, u') ∧ 0 ≤ v ∧ v ≤ 255 := by
  unfold spec_l4Cur_next.f
  by_cases h : p < (l.length : Int)
  · rw [if_pos h, if_pos h0]
    obtain ⟨P, rfl⟩ := Int.eq_ofNat_of_zero_le h0
    have hP : P < l.length := by omega
    have hx := hb l[P] (List.getElem_mem hP)
    rw [rd_at l P hP, w64 (by omega) (by omega), w64 (by omega) (by omega)]
    exact ⟨_, _, rfl, hx⟩
  · rw [if_neg h, w64 (x := p + 1) (by omega) (by omega)]
    refine ⟨_, _, rfl, ?_⟩
    have hr : 0 ≤ IntKind.u64.wrap (IntKind.u64.wrap (u * 6364136223846793005) + 1442695040888963407) / 1099511627776 ∧ IntKind.u64.wrap (IntKind.u64.wrap (u * 6364136223846793005) + 1442695040888963407) / 1099511627776 < 2 ^ 64 := by
      rw [IntKind.wrap_u64]
      omega
    have := bits_mask .u64 64 (by decide) (fun n g0 g1 => by rw [IntKind.wrap_u64]; omega) 8 (by decide) _ hr.1 hr.2
    rw [show (2 : Int) ^ 8 - 1 = 255 from rfl, show (2 : Int) ^ 8 = 256 from rfl] at this
    rw [this, w64 (by omega) (by omega)]
    omega
theorem pick_any (l : List Int) (hb : Bytes l) (p u n : Int) (h0 : 0 ≤ p) (h1 : p < 2305843009213693952) : ∃ v p' u', spec_l4Cur_pick.f l p u n = some (v, p', u') ∧ p ≤ p' ∧ p' ≤ p + 2 ∧ (1 < n → n ≤ 200 → 0 ≤ v ∧ v < n) ∧ (n ≤ 1 → v = 0) ∧ (1 < n → n ≤ 1000000 → 0 ≤ v ∧ v < n) := by
  unfold spec_l4Cur_pick.f
  by_cases hn : n ≤ 1
  · rw [if_pos hn]
    exact ⟨0, p, u, rfl, Int.le_refl _, by omega, fun h => by omega, fun _ => rfl, fun h => by omega⟩
  obtain ⟨v1, u1, e1, r1⟩ := next_some l hb p u h0 (by omega)
  obtain ⟨v2, u2, e2, r2⟩ := next_some l hb (p + 1) u1 (by omega) (by omega)
  rw [if_neg hn, e1]
  simp only [Option.bind_some]
  by_cases hb' : n > 200
  · rw [if_pos hb', e2]
    simp only [Option.bind_some]
    rw [if_neg (by omega), w64 (x := v1 * 256) (by omega) (by omega), w64 (by omega) (by omega)]
    exact ⟨_, _, _, rfl, by omega, by omega, fun _ => by omega, fun _ => by omega, fun _ _ => ⟨Int.tmod_nonneg _ (by omega), Int.tmod_lt_of_pos _ (by omega)⟩⟩
  · rw [if_neg hb', if_neg (by omega)]
    exact ⟨_, _, _, rfl, by omega, by omega, fun _ _ => ⟨Int.tmod_nonneg _ r1.1, Int.tmod_lt_of_pos _ (by omega)⟩, fun _ => by omega, fun _ _ => ⟨Int.tmod_nonneg _ r1.1, Int.tmod_lt_of_pos _ (by omega)⟩⟩
theorem wr (x : Int) : -9223372036854775808 ≤ wrap64 x ∧ wrap64 x ≤ 9223372036854775807 := by
  unfold wrap64
  omega
theorem whole_any (l : List Int) (hb : Bytes l) (p u : Int) (h0 : 0 ≤ p) (h1 : p < 1000000000000) : ∃ v p' u', spec_l4Cur_whole.f l p u = some (v, p', u') ∧ p ≤ p' ∧ p' ≤ p + 4 ∧ -9223372036854775808 ≤ v ∧ v ≤ 9223372036854775807 := by
  obtain ⟨v1, p1, u1, e1, a1, b1, -⟩ := pick_any l hb p u 6 h0 (by omega)
  unfold spec_l4Cur_whole.f
  rw [e1]
  simp only [Option.bind_some]
  obtain ⟨v2, p2, u2, e2, a2, b2, -⟩ := pick_any l hb p1 u1 3 (by omega) (by omega)
  obtain ⟨v3, p3, u3, e3, a3, b3, -⟩ := pick_any l hb p1 u1 70000 (by omega) (by omega)
  obtain ⟨v4, p4, u4, e4, a4, b4, -⟩ := pick_any l hb p1 u1 12 (by omega) (by omega)
  by_cases c0 : v1 = 0
  · rw [if_pos c0, e2]
    simp only [Option.bind_some]
    exact ⟨_, _, _, rfl, by omega, by omega, wr _⟩
  · rw [if_neg c0]
    by_cases c1 : v1 = 1
    · rw [if_pos c1, e2]
      simp only [Option.bind_some]
      exact ⟨_, _, _, rfl, by omega, by omega, wr _⟩
    · rw [if_neg c1]
      by_cases c2 : v1 = 2
      · rw [if_pos c2, e3]
        simp only [Option.bind_some]
        exact ⟨_, _, _, rfl, by omega, by omega, wr _⟩
      · rw [if_neg c2, e4]
        simp only [Option.bind_some]
        exact ⟨_, _, _, rfl, by omega, by omega, wr _⟩
theorem rules_any (l : List Int) (hb : Bytes l) (p u : Int) (h0 : 0 ≤ p) (h1 : p < 1000000000000) : ∃ a b c p' u', spec_l4Cur_rules.f l p u = some (a, b, c, p', u') ∧ p ≤ p' ∧ p' ≤ p + 6 ∧ 1 ≤ a ∧ a ≤ 6 ∧ 1 ≤ b ∧ b ≤ 20 ∧ 0 ≤ c ∧ c ≤ b := by
  obtain ⟨v1, p1, u1, e1, a1, b1, r1, -⟩ := pick_any l hb p u 6 h0 (by omega)
  obtain ⟨v2, p2, u2, e2, a2, b2, r2, -⟩ := pick_any l hb p1 u1 20 (by omega) (by omega)
  have r1 := r1 (by decide) (by decide)
  have r2 := r2 (by decide) (by decide)
  have w1 : wrap64 (1 + v2) = 1 + v2 := w64 (by omega) (by omega)
  have w2 : wrap64 (1 + v2 + 1) = 1 + v2 + 1 := w64 (by omega) (by omega)
  have w3 : wrap64 (1 + v1) = 1 + v1 := w64 (by omega) (by omega)
  obtain ⟨v3, p3, u3, e3, a3, b3, r3, -⟩ := pick_any l hb p2 u2 (1 + v2 + 1) (by omega) (by omega)
  have r3 := r3 (by omega) (by omega)
  unfold spec_l4Cur_rules.f
  simp only [e1, Option.bind_some, e2, w1, w2, w3, e3]
  exact ⟨_, _, _, _, _, rfl, by omega, by omega, by omega, by omega, by omega, by omega, by omega, by omega⟩
theorem oddrules_any (l : List Int) (hb : Bytes l) (p u x y z : Int) (h0 : 0 ≤ p) (h1 : p < 1000000000000) : ∃ a b c p' u', spec_l4Cur_oddrules.f l p u x y z = some (a, b, c, p', u') ∧ p ≤ p' ∧ p' ≤ p + 4 := by
  obtain ⟨v1, p1, u1, e1, a1, b1, -⟩ := pick_any l hb p u 3 h0 (by omega)
  obtain ⟨v2, p2, u2, e2, a2, b2, r2, -⟩ := pick_any l hb p1 u1 3 (by omega) (by omega)
  have r2 := r2 (by decide) (by decide)
  unfold spec_l4Cur_oddrules.f
  simp only [e1, Option.bind_some, e2]
  have c1 : 0 ≤ v2 := r2.1
  have c2 : v2 < ((3 : Nat) : Int) := r2.2
  by_cases d0 : v1 = 0
  · simp only [d0, if_true, List.length_cons, List.length_nil, Nat.zero_add, Nat.reduceAdd, c1, c2]
    exact ⟨_, _, _, _, _, rfl, by omega, by omega⟩
  · by_cases d1 : v1 = 1
    · simp only [d0, d1, if_true, if_false, List.length_cons, List.length_nil, Nat.zero_add, Nat.reduceAdd, c1, c2, Int.reduceEq]
      exact ⟨_, _, _, _, _, rfl, by omega, by omega⟩
    · simp only [d0, d1, if_true, if_false, List.length_cons, List.length_nil, Nat.zero_add, Nat.reduceAdd, c1, c2]
      exact ⟨_, _, _, _, _, rfl, by omega, by omega⟩
theorem l4rules_any (l : List Int) (hb : Bytes l) (p u : Int) (h0 : 0 ≤ p) (h1 : p < 100000000000) : ∃ a b c p' u', spec_l4rules.f l p u = some (a, b, c, p', u') ∧ p ≤ p' ∧ p' ≤ p + 12 := by
  obtain ⟨a, b, c, p1, u1, e1, a1, b1, -⟩ := rules_any l hb p u h0 (by omega)
  obtain ⟨v2, p2, u2, e2, a2, b2, -⟩ := pick_any l hb p1 u1 16 (by omega) (by omega)
  obtain ⟨a', b', c', p3, u3, e3, a3, b3⟩ := oddrules_any l hb p2 u2 a b c (by omega) (by omega)
  unfold spec_l4rules.f
  simp only [e1, Option.bind_some, e2, e3]
  by_cases d0 : v2 = 0
  · simp only [d0, if_true]
    exact ⟨_, _, _, _, _, rfl, by omega, by omega⟩
  · simp only [d0, if_false]
    exact ⟨_, _, _, _, _, rfl, by omega, by omega⟩
theorem now_any (l : List Int) (hb : Bytes l) (p u : Int) (h0 : 0 ≤ p) (h1 : p < 100000000000) : ∃ v p' u', spec_l4Cur_now.f l p u = some (v, p', u') ∧ p ≤ p' ∧ p' ≤ p + 4 := by
  obtain ⟨v1, p1, u1, e1, a1, b1, -⟩ := pick_any l hb p u 20 h0 (by omega)
  obtain ⟨v2, p2, u2, e2, a2, b2, r2, -⟩ := pick_any l hb p1 u1 4 (by omega) (by omega)
  obtain ⟨v3, p3, u3, e3, a3, b3, -⟩ := pick_any l hb p1 u1 50 (by omega) (by omega)
  have r2 := r2 (by decide) (by decide)
  unfold spec_l4Cur_now.f
  simp only [e1, Option.bind_some, e2, e3]
  have c1 : 0 ≤ v2 := r2.1
  have c2 : v2 < ((4 : Nat) : Int) := r2.2
  by_cases d0 : v1 = 0
  · simp only [d0, if_true, List.length_cons, List.length_nil, Nat.zero_add, Nat.reduceAdd, c1, c2]
    exact ⟨_, _, _, rfl, by omega, by omega⟩
  · simp only [d0, if_false]
    exact ⟨_, _, _, rfl, by omega, by omega⟩
theorem boxj_any (l : List Int) (hb : Bytes l) (x p u : Int) (h0 : 0 ≤ p) (h1 : p < 100000000000) (k : Nat) : ∃ a b c d e p' u', spec_l4Cur_box.j1 (k + 1) x l p u = some (a, b, c, d, e, p', u') ∧ p ≤ p' ∧ p' ≤ p + 20 := by
  obtain ⟨v1, p1, u1, e1, a1, b1, -⟩ := pick_any l hb p u 9 h0 (by omega)
  obtain ⟨v2, p2, u2, e2, a2, b2, -⟩ := whole_any l hb p1 u1 (by omega) (by omega)
  obtain ⟨v3, p3, u3, e3, a3, b3, -⟩ := pick_any l hb p2 u2 (wrap64 (v1 + 1)) (by omega) (by omega)
  obtain ⟨v4, p4, u4, e4, a4, b4, -⟩ := pick_any l hb p3 u3 (wrap64 (x + 1)) (by omega) (by omega)
  obtain ⟨v5, p5, u5, e5, a5, b5, -⟩ := pick_any l hb p4 u4 (wrap64 (x + 1)) (by omega) (by omega)
  obtain ⟨v6, p6, u6, e6, a6, b6, -⟩ := pick_any l hb p5 u5 24 (by omega) (by omega)
  obtain ⟨v7, p7, u7, e7, a7, b7, -⟩ := pick_any l hb p6 u6 2 (by omega) (by omega)
  simp only [spec_l4Cur_box.j1, e1, Option.bind_some, e2, e3, e4, e5, e6, e7]
  split
  · exact ⟨_, _, _, _, _, _, _, rfl, by omega, by omega⟩
  split
  · exact ⟨_, _, _, _, _, _, _, rfl, by omega, by omega⟩
  split
  · exact ⟨_, _, _, _, _, _, _, rfl, by omega, by omega⟩
  split
  · exact ⟨_, _, _, _, _, _, _, rfl, by omega, by omega⟩
  · exact ⟨_, _, _, _, _, _, _, rfl, by omega, by omega⟩
theorem box_any (l : List Int) (hb : Bytes l) (x p u : Int) (h0 : 0 ≤ p) (h1 : p < 100000000000) (k : Nat) : ∃ a b c d e p' u', spec_l4Cur_box.f (k + 2) l p u x = some (a, b, c, d, e, p', u') ∧ p ≤ p' ∧ p' ≤ p + 20 := by
  unfold spec_l4Cur_box.f
  simp only [spec_l4Cur_box.j0]
  split
  · simp only [if_true]
    exact boxj_any l hb 30 p u h0 h1 k
  · split
    · exact boxj_any l hb 30 p u h0 h1 k
    · exact boxj_any l hb x p u h0 h1 k
theorem trainj_any (l : List Int) (hb : Bytes l) (x p u : Int) (h0 : 0 ≤ p) (h1 : p < 100000000000) (k : Nat) : ∃ a b c p' u', spec_l4Cur_train.j1 (k + 1) x l p u = some (a, b, c, p', u') ∧ p ≤ p' ∧ p' ≤ p + 20 := by
  obtain ⟨v1, p1, u1, e1, a1, b1, -⟩ := pick_any l hb p u 9 h0 (by omega)
  obtain ⟨v2, p2, u2, e2, a2, b2, -⟩ := whole_any l hb p1 u1 (by omega) (by omega)
  obtain ⟨v3, p3, u3, e3, a3, b3, -⟩ := pick_any l hb p2 u2 (wrap64 (x + 1)) (by omega) (by omega)
  obtain ⟨v4, p4, u4, e4, a4, b4, -⟩ := pick_any l hb p3 u3 24 (by omega) (by omega)
  obtain ⟨v5, p5, u5, e5, a5, b5, r5, -⟩ := pick_any l hb p4 u4 3 (by omega) (by omega)
  have r5 := r5 (by decide) (by decide)
  have c1 : 0 ≤ v5 := r5.1
  have c2 : v5 < ((3 : Nat) : Int) := r5.2
  simp only [spec_l4Cur_train.j1, e1, Option.bind_some, e2, e3, e4, e5]
  by_cases d0 : v4 = 0
  · simp only [d0, if_true]
    exact ⟨_, _, _, _, _, rfl, by omega, by omega⟩
  · by_cases d1 : v4 = 1
    · simp only [d0, d1, if_true, if_false, List.length_cons, List.length_nil, Nat.zero_add, Nat.reduceAdd, c1, c2, Int.reduceEq]
      exact ⟨_, _, _, _, _, rfl, by omega, by omega⟩
    · simp only [d0, d1, if_false]
      exact ⟨_, _, _, _, _, rfl, by omega, by omega⟩
theorem train_any (l : List Int) (hb : Bytes l) (x p u : Int) (h0 : 0 ≤ p) (h1 : p < 100000000000) (k : Nat) : ∃ a b c p' u', spec_l4Cur_train.f (k + 2) l p u x = some (a, b, c, p', u') ∧ p ≤ p' ∧ p' ≤ p + 20 := by
  unfold spec_l4Cur_train.f
  simp only [spec_l4Cur_train.j0]
  split
  · simp only [if_true]
    exact trainj_any l hb 30 p u h0 h1 k
  · split
    · exact trainj_any l hb 30 p u h0 h1 k
    · exact trainj_any l hb x p u h0 h1 k
theorem packetj_any (l : List Int) (hb : Bytes l) (p u a b c d : Int) (h0 : 0 ≤ p) (h1 : p < 100000000000) (k : Nat) : ∃ a' b' c' d' p' u', spec_l4Cur_packet.j0 (k + 1) l p u a b c d = some (a', b', c', d', p', u') ∧ p ≤ p' ∧ p' ≤ p + 4 := by
  obtain ⟨v1, p1, u1, e1, a1, b1, -⟩ := pick_any l hb p u 20 h0 (by omega)
  obtain ⟨v2, p2, u2, e2, a2, b2, -⟩ := pick_any l hb p1 u1 4 (by omega) (by omega)
  obtain ⟨v3, p3, u3, e3, a3, b3, r3, -⟩ := pick_any l hb p1 u1 3 (by omega) (by omega)
  have r3 := r3 (by decide) (by decide)
  have c1 : 0 ≤ v3 := r3.1
  have c2 : v3 < ((3 : Nat) : Int) := r3.2
  simp only [spec_l4Cur_packet.j0, e1, Option.bind_some, e2, e3, List.length_cons, List.length_nil, Nat.zero_add, Nat.reduceAdd, c1, c2, if_true]
  split
  · exact ⟨_, _, _, _, _, _, rfl, by omega, by omega⟩
  split
  · exact ⟨_, _, _, _, _, _, rfl, by omega, by omega⟩
  split
  · exact ⟨_, _, _, _, _, _, rfl, by omega, by omega⟩
  split
  · exact ⟨_, _, _, _, _, _, rfl, by omega, by omega⟩
  · exact ⟨_, _, _, _, _, _, rfl, by omega, by omega⟩
theorem packet_any (l : List Int) (hb : Bytes l) (p u : Int) (h0 : 0 ≤ p) (h1 : p < 10000000000) (k : Nat) : ∃ a b c d p' u', spec_l4Cur_packet.f (k + 1) l p u = some (a, b, c, d, p', u') ∧ p ≤ p' ∧ p' ≤ p + 20 := by
  obtain ⟨v1, p1, u1, e1, a1, b1, -⟩ := pick_any l hb p u 2 h0 (by omega)
  obtain ⟨v2, p2, u2, e2, a2, b2, -⟩ := pick_any l hb p1 u1 9 (by omega) (by omega)
  obtain ⟨v3, p3, u3, e3, a3, b3, -⟩ := pick_any l hb p2 u2 40 (by omega) (by omega)
  obtain ⟨v4, p4, u4, e4, a4, b4, -⟩ := whole_any l hb p3 u3 (by omega) (by omega)
  obtain ⟨x1, x2, x3, x4, q, t, f1, g1, g2⟩ := packetj_any l hb p4 u4 (wrap64 (1 + v1)) v2 v4 v3 (by omega) (by omega) k
  obtain ⟨y1, y2, y3, y4, q', t', f2, g3, g4⟩ := packetj_any l hb p3 u3 (wrap64 (1 + v1)) v2 0 v3 (by omega) (by omega) k
  simp only [spec_l4Cur_packet.f, e1, Option.bind_some, e2, e3, e4, f1, f2]
  split
  · exact ⟨_, _, _, _, _, _, rfl, by omega, by omega⟩
  · exact ⟨_, _, _, _, _, _, rfl, by omega, by omega⟩
theorem in_loop (l : List Int) (hb : Bytes l) (x : Int) (m : Nat) : ∀ (k : Nat) (L : List S60) (p u : Int), 2 * m + 2 < k → 0 ≤ p → p + 20 * m < 1000000000 → L.length + m ≤ 1000 → m ≤ 1000 →
    ∃ R p' u', spec_l4Cur_in.l0 k x L (m : Int) l p u = some (R, p', u') ∧ R.length ≤ L.length + m + 1 ∧ p ≤ p' ∧ p' ≤ p + 20 * m + 40 := by
  induction m with
  | zero =>
    intro k L p u hk h0 h1 hL _
    obtain ⟨k, rfl⟩ : ∃ q, k = q + 1 + 1 := ⟨k - 2, by omega⟩
    obtain ⟨v1, p1, u1, e1, a1, b1, -⟩ := pick_any l hb p u 30 h0 (by omega)
    obtain ⟨a, b, c, d, p2, u2, e2, a2, b2⟩ := packet_any l hb p1 u1 (by omega) (by omega) k
    have c4 : L.length < 4398046511104 := by omega
    simp only [spec_l4Cur_in.l0, e1, Option.bind_some, e2, c4, if_true]
    rw [if_neg (by decide)]
    split
    · exact ⟨_, _, _, rfl, by simp, by omega, by omega⟩
    · exact ⟨_, _, _, rfl, by omega, by omega, by omega⟩
  | succ m ih =>
    intro k L p u hk h0 h1 hL hm
    obtain ⟨k, rfl⟩ : ∃ q, k = q + 1 + 1 := ⟨k - 2, by omega⟩
    obtain ⟨v1, p1, u1, e1, a1, b1, r1, -⟩ := pick_any l hb p u 2 h0 (by omega)
    obtain ⟨v2, p2, u2, e2, a2, b2, -⟩ := pick_any l hb p1 u1 10 (by omega) (by omega)
    obtain ⟨v3, p3, u3, e3, a3, b3, -⟩ := pick_any l hb p2 u2 50 (by omega) (by omega)
    obtain ⟨v4, p4, u4, e4, a4, b4, -⟩ := pick_any l hb p3 u3 20 (by omega) (by omega)
    obtain ⟨v5, p5, u5, e5, a5, b5, -⟩ := pick_any l hb p4 u4 9 (by omega) (by omega)
    obtain ⟨v6, p6, u6, e6, a6, b6, -⟩ := pick_any l hb p3 u3 9 (by omega) (by omega)
    have c4 : L.length < 4398046511104 := by omega
    have w1 : wrap64 (((m + 1 : Nat) : Int) - 1) = (m : Int) := by rw [w64 (by omega) (by omega)]; omega
    have key : ∀ (q : S60) (p' u' : Int), p ≤ p' → p' ≤ p + 20 → ∃ R p'' u'', spec_l4Cur_in.l0 k x (L ++ [q]) (m : Int) l p' u' = some (R, p'', u'') ∧ R.length ≤ L.length + (m + 1) + 1 ∧ p ≤ p'' ∧ p'' ≤ p + 20 * ((m + 1 : Nat) : Int) + 40 := by
      intro q p' u' g1 g2
      obtain ⟨R, p'', u'', f1, f2, f3, f4⟩ := ih k (L ++ [q]) p' u' (by omega) (by omega) (by omega) (by simp; omega) (by omega)
      exact ⟨R, p'', u'', f1, by simp at f2; omega, by omega, by omega⟩
    simp only [spec_l4Cur_in.l0, spec_l4Cur_in.j1, e1, Option.bind_some, e2, e3, e4, e5, e6, c4, if_true, w1]
    rw [if_pos (by omega)]
    by_cases hx0 : x ≥ 0
    · by_cases hx1 : x < 1000
      · have hw : ¬ wrap64 (x + 1) = 0 := by rw [w64 (by omega) (by omega)]; omega
        simp only [hx0, hx1, if_true, hw, if_false]
        split
        · split
          · exact key _ _ _ (by omega) (by omega)
          · exact key _ _ _ (by omega) (by omega)
        · split
          · exact key _ _ _ (by omega) (by omega)
          · exact key _ _ _ (by omega) (by omega)
      · simp only [hx0, hx1, if_true, if_false, Bool.false_eq_true]
        split
        · exact key _ _ _ (by omega) (by omega)
        · exact key _ _ _ (by omega) (by omega)
    · simp only [hx0, if_false, Bool.false_eq_true]
      split
      · exact key _ _ _ (by omega) (by omega)
      · exact key _ _ _ (by omega) (by omega)
theorem in_any (l : List Int) (hb : Bytes l) (x p u : Int) (h0 : 0 ≤ p) (h1 : p < 100000000) (k : Nat) (hk : 20 < k) : ∃ R p' u', spec_l4Cur_in.f k l p u x = some (R, p', u') ∧ R.length ≤ 10 ∧ p ≤ p' ∧ p' ≤ p + 200 := by
  obtain ⟨v1, p1, u1, e1, a1, b1, r1, -⟩ := pick_any l hb p u 5 h0 (by omega)
  have r1 := r1 (by decide) (by decide)
  obtain ⟨m, rfl⟩ := Int.eq_ofNat_of_zero_le r1.1
  obtain ⟨R, p2, u2, e2, f1, f2, f3⟩ := in_loop l hb x m k [] p1 u1 (by omega) (by omega) (by omega) (by simp; omega) (by omega)
  simp only [spec_l4Cur_in.f, e1, Option.bind_some, e2]
  exact ⟨_, _, _, rfl, by simp at f1; omega, by omega, by omega⟩
theorem drawbox_loop (l : List Int) (hb : Bytes l) (x r0 r1 r2 b0 b1 b2 b3 b4 : Int) (m : Nat) : ∀ (k : Nat) (L : List Int) (p u : Int), 30 + m < k → 0 ≤ p → p + 20 * m < 10000000 → L.length + m ≤ 100 →
    ∃ R P, spec_DrawBoxTick.l0 k x L (m : Int) l p u r0 r1 r2 b0 b1 b2 b3 b4 = some (r0, r1, r2, x, b0, b1, b2, b3, b4, R, P) ∧ R.length ≤ 200 ∧ P.length ≤ 10 := by
  induction m with
  | zero =>
    intro k L p u hk h0 h1 hL
    obtain ⟨k, rfl⟩ : ∃ q, k = q + 1 := ⟨k - 1, by omega⟩
    obtain ⟨v1, p1, u1, e1, a1, b1', -⟩ := pick_any l hb p u 40 h0 (by omega)
    obtain ⟨v2, p2, u2, e2, a2, b2', r2', -⟩ := pick_any l hb p1 u1 2 (by omega) (by omega)
    have r2' := r2' (by decide) (by decide)
    obtain ⟨R1, p3, u3, e3, f1, -⟩ := in_any l hb x p2 u2 (by omega) (by omega) k (by omega)
    obtain ⟨R2, p4, u4, e4, f2, -⟩ := in_any l hb x p1 u1 (by omega) (by omega) k (by omega)
    have w1 : wrap64 (100 + v2) = 100 + v2 := w64 (by omega) (by omega)
    have c1 : 0 ≤ 100 + v2 := by omega
    have c2 : (100 + v2).toNat ≤ 35184372088832 := by omega
    simp only [spec_DrawBoxTick.l0, e1, Option.bind_some, e2, e3, e4, w1, c1, c2, if_true]
    rw [if_neg (by decide)]
    split
    · exact ⟨_, _, rfl, by simp; omega, f1⟩
    · exact ⟨_, _, rfl, by omega, f2⟩
  | succ m ih =>
    intro k L p u hk h0 h1 hL
    obtain ⟨k, rfl⟩ : ∃ q, k = q + 1 := ⟨k - 1, by omega⟩
    obtain ⟨v1, p1, u1, e1, a1, b1', -⟩ := whole_any l hb p u h0 (by omega)
    have w1 : wrap64 (((m + 1 : Nat) : Int) - 1) = (m : Int) := by rw [w64 (by omega) (by omega)]; omega
    have c4 : L.length < 17592186044416 := by omega
    simp only [spec_DrawBoxTick.l0, e1, Option.bind_some, w1, c4, if_true]
    rw [if_pos (by omega)]
    exact ih k (L ++ [v1]) p1 u1 (by omega) (by omega) (by omega) (by simp; omega)
theorem drawbox_any (l : List Int) (hb : Bytes l) (k : Nat) (hk : 100 < k) : ∃ r0 r1 r2 x b0 b1 b2 b3 b4 R P, spec_DrawBoxTick.f k l = some (r0, r1, r2, x, b0, b1, b2, b3, b4, R, P) ∧ R.length ≤ 200 ∧ P.length ≤ 10 := by
  obtain ⟨k, rfl⟩ : ∃ q, k = q + 2 := ⟨k - 2, by omega⟩
  obtain ⟨r0, r1, r2, p1, u1, e1, a1, q1⟩ := l4rules_any l hb 0 0 (by omega) (by omega)
  obtain ⟨x, p2, u2, e2, a2, q2⟩ := now_any l hb p1 u1 (by omega) (by omega)
  obtain ⟨b0, b1, b2, b3, b4, p3, u3, e3, a3, q3⟩ := box_any l hb x p2 u2 (by omega) (by omega) k
  obtain ⟨v4, p4, u4, e4, a4, q4, s4, -⟩ := pick_any l hb p3 u3 3 (by omega) (by omega)
  have s4 := s4 (by decide) (by decide)
  obtain ⟨m, rfl⟩ := Int.eq_ofNat_of_zero_le s4.1
  obtain ⟨R, P, e5, f1, f2⟩ := drawbox_loop l hb x r0 r1 r2 b0 b1 b2 b3 b4 m (k + 2) [] p4 u4 (by omega) (by omega) (by omega) (by simp; omega)
  simp only [spec_DrawBoxTick.f, e1, Option.bind_some, e2, e3, e4, e5]
  exact ⟨_, _, _, _, _, _, _, _, _, _, _, rfl, f1, f2⟩
theorem drawtrain_loop (x t r0 r1 r2 b0 b1 b2 : Int) (ht : t ≤ 2000) (d : Nat) : ∀ (k : Nat) (L : List S60), 2000 - L.length = d → d < k → L.length ≤ 2000 →
    ∃ P, spec_DrawTrainTick.l0 k x L t r0 r1 r2 b0 b1 b2 = some (r0, r1, r2, x, b0, b1, b2, P) ∧ P.length ≤ 2000 := by
  induction d with
  | zero =>
    intro k L hd hk hL
    obtain ⟨k, rfl⟩ : ∃ q, k = q + 1 := ⟨k - 1, by omega⟩
    simp only [spec_DrawTrainTick.l0]
    rw [if_neg (by omega)]
    exact ⟨_, rfl, hL⟩
  | succ d ih =>
    intro k L hd hk hL
    obtain ⟨k, rfl⟩ : ∃ q, k = q + 1 := ⟨k - 1, by omega⟩
    simp only [spec_DrawTrainTick.l0]
    by_cases h : (L.length : Int) < t
    · rw [if_pos h, if_pos (by omega)]
      exact ih k _ (by simp; omega) (by omega) (by simp; omega)
    · rw [if_neg h]
      exact ⟨_, rfl, hL⟩
theorem drawtrain_any (l : List Int) (hb : Bytes l) (k : Nat) (hk : 3000 < k) : ∃ r0 r1 r2 x b0 b1 b2 P, spec_DrawTrainTick.f k l = some (r0, r1, r2, x, b0, b1, b2, P) ∧ P.length ≤ 2000 := by
  obtain ⟨k, rfl⟩ : ∃ q, k = q + 2 := ⟨k - 2, by omega⟩
  obtain ⟨r0, r1, r2, p1, u1, e1, a1, q1⟩ := l4rules_any l hb 0 0 (by omega) (by omega)
  obtain ⟨x, p2, u2, e2, a2, q2⟩ := now_any l hb p1 u1 (by omega) (by omega)
  obtain ⟨b0, b1, b2, p3, u3, e3, a3, q3⟩ := train_any l hb x p2 u2 (by omega) (by omega) k
  obtain ⟨R, p4, u4, e4, f4, a4, q4⟩ := in_any l hb x p3 u3 (by omega) (by omega) (k + 2) (by omega)
  obtain ⟨v5, p5, u5, e5, a5, q5, -⟩ := pick_any l hb p4 u4 60 (by omega) (by omega)
  obtain ⟨v6, p6, u6, e6, a6, q6, s6, -⟩ := pick_any l hb p5 u5 3 (by omega) (by omega)
  have s6 := s6 (by decide) (by decide)
  have w1 : wrap64 (999 + v6) = 999 + v6 := w64 (by omega) (by omega)
  obtain ⟨P, e7, f7⟩ := drawtrain_loop x (999 + v6) r0 r1 r2 b0 b1 b2 (by omega) 2000 (k + 2) [] (by simp) (by omega) (by simp)
  simp only [spec_DrawTrainTick.f, e1, Option.bind_some, e2, e3, e4, e5, e6, w1, e7]
  split
  · exact ⟨_, _, _, _, _, _, _, _, rfl, f7⟩
  · exact ⟨_, _, _, _, _, _, _, _, rfl, by omega⟩
end Go.Proofs.Ytndffnacbfdnoaa.Pure
