/- The law FnPacket of numbers and lists alone: what Encode writes Decode reads back, and one changed byte is refused, for the sum's low 48 bits tell it. -/
import Derived.Test.YtbbiloekijjocaaPAllx4
import Derived.Test.YtbbiloekijjocaaBytb
import Derived.Laws.BitsLemmas
namespace Go.Proofs.Ytbbiloekijjocaa.Pure
open Go.RowKit Go.Proofs.YtbbiloekijjocaaW.PrintWords Go.Proofs.YtbbiloekijjocaaW.PrintLast Go.Proofs.Ytbbiloekijjocaa.PAll Go.Proofs.Ytbbiloekijjocaa.Plain

/-! ### 1. The sum tells one changed byte -/
theorem fnv_nat (h b : Nat) (hh : h < 18446744073709551616) (hb : b < 18446744073709551616) : fnv (h : Int) (b : Int) = (((h ^^^ b) * 1099511628211 % 18446744073709551616 : Nat) : Int) := by
  unfold fnv
  rw [show IntKind.u64.wrap (b : Int) = (b : Int) by rw [IntKind.wrap_u64]; omega, bits_xor_u64_nat h b hh hb, IntKind.wrap_u64]
  generalize h ^^^ b = t
  omega
theorem mul_back (M P Q c x y : Nat) (hq : P * Q = 1 + M * c) (h : x * P % M = y * P % M) : x % M = y % M := by
  have key : ∀ z : Nat, z % M = (z * P % M) * (Q % M) % M := by
    intro z
    rw [← Nat.mul_mod, Nat.mul_assoc, hq, Nat.mul_add, Nat.mul_one, Nat.mul_left_comm, Nat.add_mul_mod_self_left]
  rw [key x, key y, h]
theorem low_mod (X Y : Nat) (e : ((X % 18446744073709551616 : Nat) : Int) % 281474976710656 = ((Y % 18446744073709551616 : Nat) : Int) % 281474976710656) : X % 281474976710656 = Y % 281474976710656 := by
  omega
theorem fnv_low (h b h' b' : Nat) (hh : h < 18446744073709551616) (hb : b < 18446744073709551616) (hh' : h' < 18446744073709551616) (hb' : b' < 18446744073709551616)
    (e : fnv (h : Int) (b : Int) % 281474976710656 = fnv (h' : Int) (b' : Int) % 281474976710656) : (h % 281474976710656) ^^^ (b % 281474976710656) = (h' % 281474976710656) ^^^ (b' % 281474976710656) := by
  rw [fnv_nat h b hh hb, fnv_nat h' b' hh' hb'] at e
  have e3 : (h ^^^ b) % 281474976710656 = (h' ^^^ b') % 281474976710656 := by
    generalize h ^^^ b = t at e ⊢
    generalize h' ^^^ b' = t' at e ⊢
    have e4 := low_mod _ _ e
    clear e
    have hq : 1099511628211 * 88337544549755 = 1 + 281474976710656 * 345068533534 := by omega
    revert e4 hq
    generalize 281474976710656 = M
    generalize 1099511628211 = P
    intro e4 hq
    exact mul_back M P _ _ t t' hq e4
  have x1 := Nat.xor_mod_two_pow (a := h) (b := b) (n := 48)
  have x2 := Nat.xor_mod_two_pow (a := h') (b := b') (n := 48)
  simp only [Nat.reducePow] at x1 x2
  rw [← x1, ← x2]
  exact e3
theorem xor_cancel (a b c : Nat) (h : a ^^^ c = b ^^^ c) : a = b := by
  have : (a ^^^ c) ^^^ c = (b ^^^ c) ^^^ c := by rw [h]
  simpa [Nat.xor_assoc] using this
theorem xor_cancel_left (a b c : Nat) (h : c ^^^ a = c ^^^ b) : a = b := by
  rw [Nat.xor_comm c a, Nat.xor_comm c b] at h
  exact xor_cancel a b c h
theorem fnv_rg (h b : Int) : 0 ≤ fnv h b ∧ fnv h b < 18446744073709551616 := by
  unfold fnv
  rw [IntKind.wrap_u64]
  omega
theorem fold_low (l : List Int) : ∀ (h h' : Int), Bytes l → 0 ≤ h → h < 18446744073709551616 → 0 ≤ h' → h' < 18446744073709551616 →
    l.foldl fnv h % 281474976710656 = l.foldl fnv h' % 281474976710656 → h % 281474976710656 = h' % 281474976710656 := by
  induction l with
  | nil => exact fun h h' _ _ _ _ _ e => e
  | cons b l ih =>
    intro h h' hb h0 h1 h2 h3 e
    have hx := hb b (by simp)
    have e1 := ih (fnv h b) (fnv h' b) (fun y hy => hb y (by simp [hy])) (fnv_rg _ _).1 (fnv_rg _ _).2 (fnv_rg _ _).1 (fnv_rg _ _).2 e
    obtain ⟨H, rfl⟩ := Int.eq_ofNat_of_zero_le h0
    obtain ⟨H', rfl⟩ := Int.eq_ofNat_of_zero_le h2
    obtain ⟨B, rfl⟩ := Int.eq_ofNat_of_zero_le hx.1
    have := xor_cancel _ _ _ (fnv_low H B H' B (by omega) (by omega) (by omega) (by omega) e1)
    omega
theorem one_byte (A B : List Int) (x v : Int) (hx : 0 ≤ x ∧ x ≤ 255) (hv : 0 ≤ v ∧ v ≤ 255) (hB : Bytes B) (e : sumOf (A ++ x :: B) % 281474976710656 = sumOf (A ++ v :: B) % 281474976710656) : x = v := by
  unfold sumOf at e
  rw [List.foldl_append, List.foldl_append, List.foldl_cons, List.foldl_cons] at e
  have hr := fnv_range A 14695981039346656037 (by decide) (by decide)
  have e1 := fold_low B _ _ hB (fnv_rg _ _).1 (fnv_rg _ _).2 (fnv_rg _ _).1 (fnv_rg _ _).2 e
  obtain ⟨H, hH⟩ := Int.eq_ofNat_of_zero_le hr.1
  obtain ⟨X, rfl⟩ := Int.eq_ofNat_of_zero_le hx.1
  obtain ⟨V, rfl⟩ := Int.eq_ofNat_of_zero_le hv.1
  rw [hH] at e1 hr
  have := xor_cancel_left _ _ _ (fnv_low H X H V (by omega) (by omega) (by omega) (by omega) e1)
  omega
theorem put6 (x y : Int) (h : putBytes x 6 = putBytes y 6) : x % 281474976710656 = y % 281474976710656 := by
  simp only [putBytes_cons, List.cons.injEq] at h
  omega
/-! ### 2. There and back -/
theorem num4 (x : Int) : num (putBytes x 4) = x % 4294967296 := by
  simp only [putBytes_cons, num]
  simp only [putBytes, List.range_zero, List.map_nil, num]
  omega
theorem num8 (x : Int) : num (putBytes x 8) = x % 18446744073709551616 := by
  simp only [putBytes_cons, num]
  simp only [putBytes, List.range_zero, List.map_nil, num]
  omega
theorem mid (A B C : List Int) : ((A ++ (B ++ C)).take (A.length + B.length)).drop A.length = B := by
  rw [← List.append_assoc, List.take_left' (by simp)]
  simp
theorem dec_enc (a0 a1 a2 a3 : Int) (hk : okP a0 a1 a2 a3 = true) (h2 : -9223372036854775808 ≤ a2 ∧ a2 ≤ 9223372036854775807) : decTry (encOf a0 a1 a2 a3) = (a0, a1, a2, a3) := by
  have hb := enc_bytes a0 a1 a2 a3
  have hl := enc_len24 a0 a1 a2 a3 hk
  have hk2 := hk
  simp only [okP, Bool.and_eq_true, Bool.or_eq_true, decide_eq_true_eq] at hk2
  have g1 := impl_get _ hb 2 4 (by omega) (by omega)
  have g2 := impl_get _ hb 6 8 (by omega) (by omega)
  have g3 := impl_get _ hb 14 4 (by omega) (by omega)
  have w1 : IntKind.u64.wrap a1 = a1 := by rw [IntKind.wrap_u64]; omega
  have w3 : IntKind.u64.wrap a3 = a3 := by rw [IntKind.wrap_u64]; omega
  have e1 : encOf a0 a1 a2 a3 = [72, a0 % 256] ++ (putBytes (IntKind.u64.wrap a1) 4 ++ (putBytes (IntKind.u64.wrap a2) 8 ++ putBytes (IntKind.u64.wrap a3) 4 ++ putBytes (sumOf (encRow a0 a1 a2 a3)) 6)) := by
    unfold encOf
    rw [if_pos hk]
    simp only [encRow, List.append_assoc]
  have e2 : encOf a0 a1 a2 a3 = ([72, a0 % 256] ++ putBytes (IntKind.u64.wrap a1) 4) ++ (putBytes (IntKind.u64.wrap a2) 8 ++ (putBytes (IntKind.u64.wrap a3) 4 ++ putBytes (sumOf (encRow a0 a1 a2 a3)) 6)) := by
    rw [e1]
    simp only [List.append_assoc]
  have e3 : encOf a0 a1 a2 a3 = ([72, a0 % 256] ++ putBytes (IntKind.u64.wrap a1) 4 ++ putBytes (IntKind.u64.wrap a2) 8) ++ (putBytes (IntKind.u64.wrap a3) 4 ++ putBytes (sumOf (encRow a0 a1 a2 a3)) 6) := by
    rw [e1]
    simp only [List.append_assoc]
  have m1 := mid [72, a0 % 256] (putBytes (IntKind.u64.wrap a1) 4) (putBytes (IntKind.u64.wrap a2) 8 ++ putBytes (IntKind.u64.wrap a3) 4 ++ putBytes (sumOf (encRow a0 a1 a2 a3)) 6)
  have m2 := mid ([72, a0 % 256] ++ putBytes (IntKind.u64.wrap a1) 4) (putBytes (IntKind.u64.wrap a2) 8) (putBytes (IntKind.u64.wrap a3) 4 ++ putBytes (sumOf (encRow a0 a1 a2 a3)) 6)
  have m3 := mid ([72, a0 % 256] ++ putBytes (IntKind.u64.wrap a1) 4 ++ putBytes (IntKind.u64.wrap a2) 8) (putBytes (IntKind.u64.wrap a3) 4) (putBytes (sumOf (encRow a0 a1 a2 a3)) 6)
  rw [← e1] at m1
  rw [← e2] at m2
  rw [← e3] at m3
  simp only [List.length_append, putBytes_len, List.length_cons, List.length_nil, Nat.reduceAdd] at m1 m2 m3
  simp only [Nat.reduceAdd] at g1 g2 g3
  rw [m1, num4, w1] at g1
  rw [m2, num8] at g2
  rw [m3, num4, w3] at g3
  have g0 : rd (encOf a0 a1 a2 a3) 1 = a0 % 256 := by rw [e1]; rfl
  have r0 : wrap64 (a0 % 256) = a0 := by rw [w64 (by omega) (by omega)]; omega
  have r1 : wrap64 (a1 % 4294967296) = a1 := by rw [w64 (by omega) (by omega)]; omega
  have r2 : wrap64 (IntKind.u64.wrap a2 % 18446744073709551616) = a2 := by
    rw [IntKind.wrap_u64]
    unfold wrap64
    omega
  have r3 : wrap64 (a3 % 4294967296) = a3 := by rw [w64 (by omega) (by omega)]; omega
  unfold decTry
  rw [g0, g1, g2, g3, r0, r1, r2, r3]
theorem dec_there (a0 a1 a2 a3 : Int) (hk : okP a0 a1 a2 a3 = true) (h2 : -9223372036854775808 ≤ a2 ∧ a2 ≤ 9223372036854775807) : decOf (encOf a0 a1 a2 a3) = (a0, a1, a2, a3) := by
  have h := dec_enc a0 a1 a2 a3 hk h2
  unfold decOf
  rw [if_pos ⟨enc_len24 _ _ _ _ hk, by rw [h]⟩, h]
theorem set_split (l : List Int) (i : Nat) (v : Int) (h : i < l.length) : l = l.take i ++ l[i] :: l.drop (i + 1) ∧ l.set i v = l.take i ++ v :: l.drop (i + 1) := by
  constructor
  · rw [← List.drop_eq_getElem_cons h, List.take_append_drop]
  · rw [List.set_eq_take_append_cons_drop, if_pos h]
theorem dec_no (a0 a1 a2 a3 : Int) (hk : okP a0 a1 a2 a3 = true) (i : Nat) (v : Int) (hv : 0 ≤ v ∧ v ≤ 255) (hi : i < (encOf a0 a1 a2 a3).length) (hne : ¬ (encOf a0 a1 a2 a3)[i] = v) : decOf ((encOf a0 a1 a2 a3).set i v) = (0, 0, 0, 0) := by
  unfold decOf
  rw [if_neg]
  rintro ⟨hl, he⟩
  generalize decTry ((encOf a0 a1 a2 a3).set i v) = q at he
  obtain ⟨q0, q1, q2, q3⟩ := q
  simp only at he
  have hq : okP q0 q1 q2 q3 = true := by
    by_cases h : okP q0 q1 q2 q3 = true
    · exact h
    · have e0 : encOf q0 q1 q2 q3 = [] := by unfold encOf; rw [if_neg h]
      rw [e0] at he
      rw [← he] at hl
      simp at hl
  have eb := enc_bytes a0 a1 a2 a3
  have ep : encOf a0 a1 a2 a3 = encRow a0 a1 a2 a3 ++ putBytes (sumOf (encRow a0 a1 a2 a3)) 6 := by unfold encOf; rw [if_pos hk]
  have eq : encOf q0 q1 q2 q3 = encRow q0 q1 q2 q3 ++ putBytes (sumOf (encRow q0 q1 q2 q3)) 6 := by unfold encOf; rw [if_pos hq]
  have hl24 := enc_len24 a0 a1 a2 a3 hk
  have lE := enc_len a0 a1 a2 a3
  have lF := enc_len q0 q1 q2 q3
  have hEb : Bytes (encRow a0 a1 a2 a3) := fun x hx => eb x (by rw [ep]; simp [hx])
  simp only [eq] at he
  by_cases h18 : i < 18
  · have hs : (encOf a0 a1 a2 a3).set i v = (encRow a0 a1 a2 a3).set i v ++ putBytes (sumOf (encRow a0 a1 a2 a3)) 6 := by
      rw [ep, List.set_append_left _ _ (by omega)]
    rw [hs] at he
    obtain ⟨f1, f2⟩ := List.append_inj he (by simp; omega)
    have hi' : i < (encRow a0 a1 a2 a3).length := by omega
    have sp := set_split (encRow a0 a1 a2 a3) i v hi'
    have hm := put6 _ _ f2
    rw [f1, sp.2] at hm
    have hm2 : sumOf (encRow a0 a1 a2 a3) = sumOf ((encRow a0 a1 a2 a3).take i ++ (encRow a0 a1 a2 a3)[i] :: (encRow a0 a1 a2 a3).drop (i + 1)) := congrArg sumOf sp.1
    rw [hm2] at hm
    have hx := one_byte _ _ _ _ hv (hEb _ (List.getElem_mem hi')) (drop_bytes _ hEb _) hm
    apply hne
    simp only [ep]
    rw [List.getElem_append_left hi']
    exact hx.symm
  · have hs : (encOf a0 a1 a2 a3).set i v = encRow a0 a1 a2 a3 ++ (putBytes (sumOf (encRow a0 a1 a2 a3)) 6).set (i - 18) v := by
      rw [ep, List.set_append_right _ _ (by omega), lE]
    rw [hs] at he
    obtain ⟨f1, f2⟩ := List.append_inj he (by omega)
    rw [f1] at f2
    apply hne
    have hi' : i - 18 < (putBytes (sumOf (encRow a0 a1 a2 a3)) 6).length := by rw [putBytes_len]; omega
    have hg : ((putBytes (sumOf (encRow a0 a1 a2 a3)) 6).set (i - 18) v)[i - 18]'(by simpa using hi') = v := by simp
    have hg2 : (putBytes (sumOf (encRow a0 a1 a2 a3)) 6)[i - 18] = v := by
      have : ∀ (L M : List Int) (h : L = M) (j : Nat) (hj : j < L.length), L[j] = M[j]'(by rw [← h]; exact hj) := by
        intro L M h j hj
        subst h
        rfl
      rw [this _ _ f2 _ hi', hg]
    simp only [ep]
    rw [List.getElem_append_right (by omega)]
    simp only [lE]
    exact hg2
/-! ### 3. What is drawn -/
theorem next_some (l : List Int) (hb : Bytes l) (p u : Int) (h0 : 0 ≤ p) (h1 : p < 4611686018427387904) : ∃ v u', spec_l4Cur_next.f l p u = some (v, p + 1, u') ∧ 0 ≤ v ∧ v ≤ 255 := by
  unfold spec_l4Cur_next.f
  by_cases h : p < (l.length : Int)
  · rw [if_pos h, if_pos h0]
    obtain ⟨P, rfl⟩ := Int.eq_ofNat_of_zero_le h0
    have hP : P < l.length := by omega
    have hx := hb l[P] (List.getElem_mem hP)
    rw [rd_at l P hP, w64 (by omega) (by omega), w64 (by omega) (by omega)]
    exact ⟨_, _, rfl, hx⟩
  · rw [if_neg h, w64 (x := p + 1) (by omega) (by omega)]
    refine ⟨_, _, rfl, ?_⟩
    have hr : 0 ≤ IntKind.u64.wrap (IntKind.u64.wrap (u * 6364136223846793005) + 1442695040888963407) / 1099511627776 ∧ IntKind.u64.wrap (IntKind.u64.wrap (u * 6364136223846793005) + 1442695040888963407) / 1099511627776 < 2 ^ 64 := by
      rw [IntKind.wrap_u64]
      omega
    have := bits_mask .u64 64 (by decide) (fun n g0 g1 => by rw [IntKind.wrap_u64]; omega) 8 (by decide) _ hr.1 hr.2
    rw [show (2 : Int) ^ 8 - 1 = 255 from rfl, show (2 : Int) ^ 8 = 256 from rfl] at this
    rw [this, w64 (by omega) (by omega)]
    omega
theorem pick_some (l : List Int) (hb : Bytes l) (p u n : Int) (hn : 1 < n) (h0 : 0 ≤ p) (h1 : p < 2305843009213693952) : ∃ v p' u', spec_l4Cur_pick.f l p u n = some (v, p', u') ∧ p ≤ p' ∧ p' ≤ p + 2 ∧ (n ≤ 200 → 0 ≤ v ∧ v < n) := by
  obtain ⟨v1, u1, e1, r1⟩ := next_some l hb p u h0 (by omega)
  obtain ⟨v2, u2, e2, r2⟩ := next_some l hb (p + 1) u1 (by omega) (by omega)
  unfold spec_l4Cur_pick.f
  rw [if_neg (by omega), e1]
  simp only [Option.bind_some]
  by_cases hb' : n > 200
  · rw [if_pos hb', e2]
    simp only [Option.bind_some]
    rw [if_neg (by omega)]
    exact ⟨_, _, _, rfl, by omega, by omega, fun _ => by omega⟩
  · rw [if_neg hb', if_neg (by omega)]
    exact ⟨_, _, _, rfl, by omega, by omega, fun _ => ⟨Int.tmod_nonneg _ r1.1, Int.tmod_lt_of_pos _ (by omega)⟩⟩
theorem wr (x : Int) : -9223372036854775808 ≤ wrap64 x ∧ wrap64 x ≤ 9223372036854775807 := by
  unfold wrap64
  omega
theorem whole_some (l : List Int) (hb : Bytes l) (p u : Int) (h0 : 0 ≤ p) (h1 : p < 1000000000000) : ∃ v p' u', spec_l4Cur_whole.f l p u = some (v, p', u') ∧ -9223372036854775808 ≤ v ∧ v ≤ 9223372036854775807 := by
  obtain ⟨v1, p1, u1, e1, a1, b1, -⟩ := pick_some l hb p u 6 (by decide) h0 (by omega)
  unfold spec_l4Cur_whole.f
  rw [e1]
  simp only [Option.bind_some]
  obtain ⟨v2, p2, u2, e2, -⟩ := pick_some l hb p1 u1 3 (by decide) (by omega) (by omega)
  obtain ⟨v3, p3, u3, e3, -⟩ := pick_some l hb p1 u1 70000 (by decide) (by omega) (by omega)
  obtain ⟨v4, p4, u4, e4, -⟩ := pick_some l hb p1 u1 12 (by decide) (by omega) (by omega)
  by_cases c0 : v1 = 0
  · rw [if_pos c0, e2]
    exact ⟨_, _, _, rfl, wr _⟩
  · rw [if_neg c0]
    by_cases c1 : v1 = 1
    · rw [if_pos c1, e2]
      exact ⟨_, _, _, rfl, wr _⟩
    · rw [if_neg c1]
      by_cases c2 : v1 = 2
      · rw [if_pos c2, e3]
        exact ⟨_, _, _, rfl, wr _⟩
      · rw [if_neg c2, e4]
        exact ⟨_, _, _, rfl, wr _⟩
theorem packets_some (l : List Int) (hb : Bytes l) : ∃ p0 p1 p2 p3, spec_Packets.f l = some (p0, p1, p2, p3) ∧ okP p0 p1 p2 p3 = true ∧ (-9223372036854775808 ≤ p2 ∧ p2 ≤ 9223372036854775807) := by
  obtain ⟨v1, p1, u1, e1, a1, b1, r1⟩ := pick_some l hb 0 0 2 (by decide) (by decide) (by decide)
  have r1 := r1 (by decide)
  obtain ⟨v2, u2, e2, r2⟩ := next_some l hb p1 u1 (by omega) (by omega)
  obtain ⟨v3, u3, e3, r3⟩ := next_some l hb (p1 + 1) u2 (by omega) (by omega)
  unfold spec_Packets.f
  rw [e1]
  simp only [Option.bind_some]
  rw [e2]
  simp only [Option.bind_some]
  rw [e3]
  simp only [Option.bind_some]
  rw [w64 (x := 1 + v1) (by omega) (by omega), w64 (x := v2 * 31) (by omega) (by omega), w64 (x := v3 * 77) (by omega) (by omega)]
  by_cases c : 1 + v1 = 1
  · rw [if_pos c]
    obtain ⟨v4, p4, u4, e4, r4⟩ := whole_some l hb (p1 + 1 + 1) u3 (by omega) (by omega)
    rw [e4]
    refine ⟨_, _, _, _, rfl, ?_, r4⟩
    simp only [okP, Bool.and_eq_true, Bool.or_eq_true, decide_eq_true_eq]
    omega
  · rw [if_neg c]
    refine ⟨_, _, _, _, rfl, ?_, by decide⟩
    simp only [okP, Bool.and_eq_true, Bool.or_eq_true, decide_eq_true_eq]
    refine ⟨⟨⟨by omega, by omega⟩, by omega, by omega⟩, .inr ⟨by omega, trivial⟩⟩
theorem wbyte_some (l : List Int) (hb : Bytes l) (a : Int) (h0 : 0 ≤ a) : ∃ v, laws_wByte.f l a = some v ∧ 0 ≤ v ∧ v ≤ 255 := by
  unfold laws_wByte.f
  by_cases h : (l.length : Int) = 0
  · rw [if_pos h]
    exact ⟨0, rfl, by decide, by decide⟩
  · have h1 := Int.tmod_nonneg (b := (l.length : Int)) h0
    have h2 := Int.tmod_lt_of_pos a (b := (l.length : Int)) (by omega)
    rw [if_neg h, if_pos h1, if_pos h2]
    generalize Int.tmod a (l.length : Int) = j at h1 h2
    obtain ⟨J, rfl⟩ := Int.eq_ofNat_of_zero_le h1
    have hJ : J < l.length := by omega
    have hx := hb l[J] (List.getElem_mem hJ)
    rw [rd_at l J hJ, w64 (by omega) (by omega)]
    exact ⟨_, rfl, hx⟩
theorem after (l1 : List Int) (hb : Bytes l1) (p0 p1 p2 p3 : Int) (hk : okP p0 p1 p2 p3 = true) (h2 : -9223372036854775808 ≤ p2 ∧ p2 ≤ 9223372036854775807) (k : Nat) : laws_FnPacket.j1 (k + 1) l1 (encOf p0 p1 p2 p3) false p0 p1 p2 p3 = some true := by
  obtain ⟨i, ei, ri⟩ := wbyte_some l1 hb 0 (by decide)
  obtain ⟨v, ev, rv⟩ := wbyte_some l1 hb 1 (by decide)
  have hl := enc_len24 p0 p1 p2 p3 hk
  have eb := enc_bytes p0 p1 p2 p3
  simp only [laws_FnPacket.j1, ei, ev, Option.bind_some]
  rw [if_neg (by decide), if_neg (by omega)]
  have h1 := Int.tmod_nonneg (b := ((encOf p0 p1 p2 p3).length : Int)) ri.1
  have h3 := Int.tmod_lt_of_pos i (b := ((encOf p0 p1 p2 p3).length : Int)) (by omega)
  rw [if_pos h1, if_pos h3]
  generalize Int.tmod i ((encOf p0 p1 p2 p3).length : Int) = j at h1 h3
  obtain ⟨J, rfl⟩ := Int.eq_ofNat_of_zero_le h1
  have hJ : J < (encOf p0 p1 p2 p3).length := by omega
  rw [rd_at _ J hJ, Int.toNat_natCast, show v % 256 = v by omega]
  have yb : Bytes ((encOf p0 p1 p2 p3).set J v) := by
    intro x hx
    rcases List.mem_or_eq_of_mem_set hx with h | h
    · exact eb x h
    · subst h
      exact rv
  simp only [impl_dec _ yb, Option.bind_some]
  by_cases hv : (encOf p0 p1 p2 p3)[J] = v
  · have hs : (encOf p0 p1 p2 p3).set J v = encOf p0 p1 p2 p3 := by
      rw [← hv]
      simp
    rw [hs, dec_there p0 p1 p2 p3 hk h2]
    simp [hv]
  · rw [dec_no p0 p1 p2 p3 hk J v rv hJ hv]
    have hz : ¬ (0 = p0) := by
      simp only [okP, Bool.and_eq_true, Bool.or_eq_true, decide_eq_true_eq] at hk
      omega
    have b1 : ((encOf p0 p1 p2 p3)[J] == v) = false := beq_eq_false_iff_ne.mpr hv
    have b2 : ((0 : Int) == p0) = false := beq_eq_false_iff_ne.mpr hz
    simp [b1, b2, hv]
theorem before (l0 l1 : List Int) (hb0 : Bytes l0) (hb : Bytes l1) (k : Nat) : laws_FnPacket.j0 (k + 101) l0 l1 false = some true := by
  obtain ⟨p0, p1, p2, p3, e, hk, h2⟩ := packets_some l0 hb0
  have hl := enc_len24 p0 p1 p2 p3 hk
  have eb := enc_bytes p0 p1 p2 p3
  rw [show k + 101 = (k + 100) + 1 by omega]
  simp only [laws_FnPacket.j0, e, Option.bind_some, impl_enc, impl_dec _ eb, dec_there p0 p1 p2 p3 hk h2]
  rw [if_neg (by decide), if_pos (by omega)]
  simp only [beq_self_eq_true, Bool.not_true, Bool.or_self]
  rw [if_neg (by decide), spec_enc _ (by omega), Option.bind_some, bne_self_eq_false]
  exact after l1 hb p0 p1 p2 p3 hk h2 (k + 99)
theorem FnPacket (l0 : List Int) (l1 : List Int) (_ : l0.length ≤ maxLen) (_ : l0.length * 1 ≤ 140737488351232) (hw0 : (∀ x ∈ l0, (Lit.int .u8 x).wf = true)) (_ : l1.length ≤ maxLen) (_ : l1.length * 1 ≤ 140737488351232) (hw1 : (∀ x ∈ l1, (Lit.int .u8 x).wf = true)) : ∃ k, laws_FnPacket.f k l0 l1 = some true := by
  refine ⟨200, ?_⟩
  have hb0 : Bytes l0 := fun x hx => wf_byte (hw0 x hx)
  have hb1 : Bytes l1 := fun x hx => wf_byte (hw1 x hx)
  unfold laws_FnPacket.f
  by_cases h : (l0.length : Int) > 1048576
  · rw [if_pos h]
    simp only [laws_FnPacket.j0]
    rfl
  · rw [if_neg h]
    by_cases h1 : (l1.length : Int) > 1048576
    · rw [decide_eq_true h1]
      simp only [laws_FnPacket.j0]
      rfl
    · rw [decide_eq_false h1]
      exact before l0 l1 hb0 hb1 99

end Go.Proofs.Ytbbiloekijjocaa.Pure
