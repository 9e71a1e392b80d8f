/- The bytes of a packet read back in plain Lean: the reference's reading and the program's. No conditions beyond those written. -/
import Derived.Test.YtbbiloekijjocaaByt
import Derived.Test.YtbbiloekijjocaaEnc
import Derived.Test.YtbbiloekijjocaaPAllx6
import Derived.Lib.Bytes
import Derived.Laws.Bits64b
namespace Go.Proofs.Ytbbiloekijjocaa.Pure
open Go.RowKit Go.Proofs.YtbbiloekijjocaaW.PrintWords Go.Proofs.YtbbiloekijjocaaW.PrintLast Go.Proofs.Ytbbiloekijjocaa.PAll Go.Proofs.Ytbbiloekijjocaa.Plain

theorem or_join (h b : Int) (i : Nat) (h0 : 0 ≤ h) (h1 : h < 2 ^ i) (b0 : 0 ≤ b) (hs : b * 2 ^ i + h < 18446744073709551616) : bits .or .u64 h (b * 2 ^ i) = b * 2 ^ i + h ∧ bits .or .u64 (b * 2 ^ i) h = b * 2 ^ i + h := by
  obtain ⟨H, rfl⟩ := Int.eq_ofNat_of_zero_le h0
  obtain ⟨B, rfl⟩ := Int.eq_ofNat_of_zero_le b0
  have hp : ((B : Int) * 2 ^ i) = ((2 ^ i * B : Nat) : Int) := by
    rw [Int.natCast_mul, Int.mul_comm, Int.natCast_pow]
    rfl
  rw [hp] at hs ⊢
  have hH : H < 2 ^ i := by
    have : (H : Int) < ((2 ^ i : Nat) : Int) := by rw [Int.natCast_pow]; exact h1
    omega
  have hj := Nat.two_pow_add_eq_or_of_lt hH B
  constructor
  · rw [bits_or_u64_nat _ _ (by omega) (by omega), Nat.or_comm, ← hj]
    omega
  · rw [bits_or_u64_nat _ _ (by omega) (by omega), ← hj]
    omega
/-- The number that a row of bytes tells, the least byte first. -/
def num : List Int → Int
  | [] => 0
  | x :: t => x + 256 * num t
theorem num_range : ∀ l : List Int, Bytes l → 0 ≤ num l ∧ num l < 256 ^ l.length := by
  intro l
  induction l with
  | nil => exact fun _ => ⟨by decide, by decide⟩
  | cons x t ih =>
    intro h
    have hx := h x (by simp)
    have ht := ih (fun y hy => h y (by simp [hy]))
    simp only [num, List.length_cons, Int.pow_succ]
    omega
theorem num_append : ∀ (l : List Int) (x : Int), num (l ++ [x]) = num l + x * 256 ^ l.length := by
  intro l x
  induction l with
  | nil => simp [num]
  | cons y t ih =>
    simp only [List.cons_append, num, ih, List.length_cons, Int.pow_succ, Int.mul_add, Int.add_assoc]
    congr 2
    rw [← Int.mul_assoc, Int.mul_comm 256 x, Int.mul_assoc, Int.mul_comm 256]
theorem pow_le8 (n : Nat) (hn : n ≤ 8) : (256 : Int) ^ n ≤ 18446744073709551616 := by
  rcases n with _ | _ | _ | _ | _ | _ | _ | _ | _ | n <;> first | decide | omega
theorem drop_bytes (l : List Int) (h : Bytes l) (i : Nat) : Bytes (l.drop i) := fun x hx => h x (List.mem_of_mem_drop hx)
theorem take_bytes (l : List Int) (h : Bytes l) (i : Nat) : Bytes (l.take i) := fun x hx => h x (List.mem_of_mem_take hx)
/-- The reference reads from the last byte down. -/
theorem get_loop (l : List Int) (hb : Bytes l) (hl : l.length ≤ 8) : ∀ (i k : Nat), i ≤ l.length → i < k →
    spec_l1get.l0 k l (num (l.drop i)) ((i : Int) - 1) = some (num l) := by
  intro i
  induction i with
  | zero =>
    intro k _ hk
    obtain ⟨k, rfl⟩ : ∃ m, k = m + 1 := ⟨k - 1, by omega⟩
    simp only [spec_l1get.l0]
    rw [if_neg (by omega)]
    simp
  | succ i ih =>
    intro k hi hk
    obtain ⟨k, rfl⟩ : ∃ m, k = m + 1 := ⟨k - 1, by omega⟩
    have hlt : i < l.length := by omega
    simp only [spec_l1get.l0]
    rw [show ((i + 1 : Nat) : Int) - 1 = (i : Int) by omega, if_pos (by omega), if_pos (by omega), if_pos (by omega), rd_at l i hlt, w64 (by omega) (by omega)]
    have e : l.drop i = l[i] :: l.drop (i + 1) := List.drop_eq_getElem_cons hlt
    have hx := hb l[i] (List.getElem_mem hlt)
    have hr := num_range (l.drop (i + 1)) (drop_bytes l hb _)
    have hr2 := num_range (l.drop i) (drop_bytes l hb _)
    have hp := pow_le8 (l.drop i).length (by simp; omega)
    have hn : num (l.drop i) = l[i] + 256 * num (l.drop (i + 1)) := by rw [e]; rfl
    have hj := (or_join l[i] (num (l.drop (i + 1))) 8 hx.1 (by omega) hr.1 (by omega)).2
    rw [show (2 : Int) ^ 8 = 256 from rfl] at hj
    rw [show IntKind.u64.wrap (l[i]) = l[i] by rw [IntKind.wrap_u64]; omega, show IntKind.u64.wrap (num (l.drop (i + 1)) * 256) = num (l.drop (i + 1)) * 256 by rw [IntKind.wrap_u64]; omega, hj, show num (l.drop (i + 1)) * 256 + l[i] = num (l.drop i) by omega]
    exact ih k (by omega) (by omega)
theorem spec_get (l : List Int) (hb : Bytes l) (hl : l.length ≤ 8) (k : Nat) (hk : 8 < k) : spec_l1get.f k l = some (num l) := by
  have h := get_loop l hb hl l.length k (Nat.le_refl _) (by omega)
  simp only [List.drop_length, num] at h
  unfold spec_l1get.f
  rw [w64 (by omega) (by omega)]
  exact h
theorem impl_get (l : List Int) (hb : Bytes l) (a : Nat) : ∀ n : Nat, n ≤ 8 → a + n ≤ l.length → getNum l a n = num ((l.take (a + n)).drop a) := by
  intro n
  induction n with
  | zero =>
    intro _ _
    rw [List.drop_of_length_le (by simp; omega)]
    rfl
  | succ n ih =>
    intro hn hl
    have hlt : a + n < l.length := by omega
    have e : (l.take (a + (n + 1))).drop a = (l.take (a + n)).drop a ++ [l[a + n]] := by
      rw [show a + (n + 1) = (a + n) + 1 by omega, List.take_succ_eq_append_getElem hlt, List.drop_append_of_le_length (by simp; omega)]
    have hlen : ((l.take (a + n)).drop a).length = n := by simp; omega
    have hx := hb l[a + n] (List.getElem_mem hlt)
    have hr := num_range ((l.take (a + n)).drop a) (drop_bytes _ (take_bytes l hb _) _)
    have hr2 := num_range ((l.take (a + (n + 1))).drop a) (drop_bytes _ (take_bytes l hb _) _)
    have hp := pow_le8 ((l.take (a + (n + 1))).drop a).length (by simp; omega)
    rw [hlen] at hr
    rw [getNum, ih (by omega) (by omega), show (a : Int) + (n : Int) = ((a + n : Nat) : Int) by omega, rd_at l (a + n) hlt, e, num_append, hlen, show IntKind.u64.wrap (l[a + n]) = l[a + n] by rw [IntKind.wrap_u64]; omega]
    rw [e, num_append, hlen] at hr2
    have hq : (2 : Int) ^ (8 * n) = 256 ^ n := by rw [Int.pow_mul]; rfl
    have hz : 0 ≤ l[a + n] * 256 ^ n := Int.mul_nonneg hx.1 (Int.pow_nonneg (by decide))
    have hs : l[a + n] * 256 ^ n + num ((l.take (a + n)).drop a) < 18446744073709551616 := by
      rw [e] at hp
      omega
    rw [hq, show IntKind.u64.wrap (l[a + n] * 256 ^ n) = l[a + n] * 256 ^ n by rw [IntKind.wrap_u64]; omega]
    have hj := (or_join (num ((l.take (a + n)).drop a)) l[a + n] (8 * n) hr.1 (by rw [hq]; exact hr.2) hx.1 (by rw [hq]; exact hs)).1
    rw [hq] at hj
    rw [hj]
    omega
theorem same_spec (e l : List Int) (hl : l.length = 24) (k : Nat) (hk : 24 < k) : spec_l1same.f k e l = some (decide (e = l)) := by
  unfold spec_l1same.f
  by_cases hn : e.length = l.length
  · rw [if_pos (by omega)]
    have key : ∀ (d k i : Nat), 24 - i = d → i ≤ 24 → d < k → (e.take i = l.take i) → spec_l1same.l0 k e l (e.length : Int) (i : Int) = some (decide (e = l)) := by
      intro d
      induction d with
      | zero =>
        intro k i hd hi hk ht
        obtain ⟨k, rfl⟩ : ∃ m, k = m + 1 := ⟨k - 1, by omega⟩
        simp only [spec_l1same.l0]
        rw [if_neg (by omega)]
        rw [List.take_of_length_le (by omega), List.take_of_length_le (by omega)] at ht
        simp [ht]
      | succ d ih =>
        intro k i hd hi hk ht
        obtain ⟨k, rfl⟩ : ∃ m, k = m + 1 := ⟨k - 1, by omega⟩
        have h1 : i < e.length := by omega
        have h2 : i < l.length := by omega
        simp only [spec_l1same.l0]
        rw [if_pos (by omega), if_pos (by omega), if_pos (by omega), if_pos (by omega), rd_at e i h1, rd_at l i h2]
        by_cases hx : e[i] = l[i]
        · rw [if_pos hx, wn (by omega)]
          exact ih k (i + 1) (by omega) (by omega) (by omega) (by rw [List.take_succ_eq_append_getElem h1, List.take_succ_eq_append_getElem h2, ht, hx])
        · rw [if_neg hx]
          have : ¬ e = l := by
            intro h
            subst h
            exact hx rfl
          simp [this]
    exact key 24 k 0 (by omega) (by omega) hk rfl
  · rw [if_neg (by omega)]
    have : ¬ e = l := by
      intro h
      subst h
      exact hn rfl
    simp [this]
theorem str_same (e l : List Int) (he : Bytes e) (hl : Bytes l) : (strOfNums e).toList = (strOfNums l).toList ↔ e = l := by
  constructor
  · intro h
    rw [Go.Lib.strOfNums_toList, Go.Lib.strOfNums_toList] at h
    unfold Go.Lib.bytesOf at h
    have inj : ∀ (a b : List Int), Bytes a → Bytes b → a.map (fun n => UInt8.ofNat n.toNat) = b.map (fun n => UInt8.ofNat n.toNat) → a = b := by
      intro a
      induction a with
      | nil =>
        intro b _ _ h
        cases b with
        | nil => rfl
        | cons y b => simp at h
      | cons x a ih =>
        intro b ha hb h
        cases b with
        | nil => simp at h
        | cons y b =>
          simp only [List.map_cons, List.cons.injEq] at h
          have hx := ha x (by simp)
          have hy := hb y (by simp)
          have h1 := congrArg UInt8.toNat h.1
          simp only [UInt8.toNat_ofNat'] at h1
          rw [ih b (fun z hz => ha z (by simp [hz])) (fun z hz => hb z (by simp [hz])) h.2]
          congr 1
          omega
    exact inj e l he hl h
  · intro h
    rw [h]
/-- What both decoders give. -/
def decOf (l : List Int) : Int × Int × Int × Int := if l.length = 24 ∧ encOf (decTry l).1 (decTry l).2.1 (decTry l).2.2.1 (decTry l).2.2.2 = l then decTry l else (0, 0, 0, 0)
theorem impl_dec (l : List Int) (hb : Bytes l) : impl_Decode.f l = some (decOf l) := by
  unfold impl_Decode.f decOf
  by_cases hl : l.length = 24
  · rw [if_pos hl, impl_enc, Option.bind_some]
    by_cases he : encOf (decTry l).1 (decTry l).2.1 (decTry l).2.2.1 (decTry l).2.2.2 = l
    · rw [if_pos ((str_same _ _ (enc_bytes _ _ _ _) hb).mpr he), if_pos ⟨hl, he⟩]
    · rw [if_neg (fun h => he ((str_same _ _ (enc_bytes _ _ _ _) hb).mp h)), if_neg (fun h => he h.2)]
  · rw [if_neg hl, if_neg (fun h => hl h.1)]
theorem spec_dec (l : List Int) (hb : Bytes l) (k : Nat) (hk : 100 ≤ k) : spec_Decode.f k l = some (decOf l) := by
  unfold spec_Decode.f decOf
  by_cases hl : l.length = 24
  · have g1 := impl_get l hb 2 4 (by omega) (by omega)
    have g2 := impl_get l hb 6 8 (by omega) (by omega)
    have g3 := impl_get l hb 14 4 (by omega) (by omega)
    simp only [Nat.reduceAdd] at g1 g2 g3
    rw [if_pos (by omega), if_pos (by omega), if_pos (by decide), if_pos (by omega), spec_get _ (drop_bytes _ (take_bytes l hb _) _) (by simp; omega) k (by omega), Option.bind_some, if_pos (by decide), if_pos (by omega), spec_get _ (drop_bytes _ (take_bytes l hb _) _) (by simp; omega) k (by omega), Option.bind_some, if_pos (by decide), if_pos (by omega), spec_get _ (drop_bytes _ (take_bytes l hb _) _) (by simp; omega) k (by omega), Option.bind_some, spec_enc k hk, Option.bind_some, same_spec _ l hl k (by omega), Option.bind_some, ← g1, ← g2, ← g3]
    show (if decide (encOf (decTry l).1 (decTry l).2.1 (decTry l).2.2.1 (decTry l).2.2.2 = l) = true then some (decTry l) else some (0, 0, 0, 0)) = _
    by_cases he : encOf (decTry l).1 (decTry l).2.1 (decTry l).2.2.1 (decTry l).2.2.2 = l
    · rw [if_pos (decide_eq_true he), if_pos ⟨hl, he⟩]
    · rw [if_neg (fun h => he (of_decide_eq_true h)), if_neg (fun h => he h.2)]
  · rw [if_neg (by omega), if_neg (fun h => hl h.1)]
end Go.Proofs.Ytbbiloekijjocaa.Pure
