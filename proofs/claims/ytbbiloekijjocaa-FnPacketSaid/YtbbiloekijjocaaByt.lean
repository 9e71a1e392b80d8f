/- The bytes of a packet in plain Lean: the reference's row and the program's. No conditions beyond those written. -/
import Derived.Test.YtbbiloekijjocaaPAllx3
import Derived.Test.YtbbiloekijjocaaPlain
namespace Go.Proofs.Ytbbiloekijjocaa.Pure
open Go.RowKit Go.Proofs.YtbbiloekijjocaaW.PrintWords Go.Proofs.YtbbiloekijjocaaW.PrintLast Go.Proofs.Ytbbiloekijjocaa.PAll Go.Proofs.Ytbbiloekijjocaa.Plain

theorem putByte_eq (x : Int) (i : Nat) : putByte x i = (x / 2 ^ (8 * i)) % 256 := by
  unfold putByte
  rw [IntKind.wrap_u8, show (8 * (i : Int)).toNat = 8 * i by omega]
theorem putByte_zero (x : Int) : putByte x 0 = x % 256 := by
  rw [putByte_eq]
  simp
theorem putByte_next (x : Int) (i : Nat) : putByte x (i + 1) = putByte (x / 256) i := by
  rw [putByte_eq, putByte_eq, Int.ediv_ediv_of_nonneg (by decide), show (8 * (i + 1)) = 8 + 8 * i by omega, Int.pow_add]
  rfl
theorem putBytes_cons (x : Int) (n : Nat) : putBytes x (n + 1) = (x % 256) :: putBytes (x / 256) n := by
  unfold putBytes
  rw [List.range_succ_eq_map, List.map_cons, List.map_map, putByte_zero]
  congr 1
  apply List.map_congr_left
  intro i _
  exact putByte_next x i
theorem put_loop (n : Nat) (hn : n < 1000) (d : Nat) : ∀ (k i : Nat) (L : List Int) (x : Int), i + d = n → L.length < 1000 → d < k →
    spec_l1put.l0 k L x (n : Int) (i : Int) = some (L ++ putBytes x d) ∨ 1000 ≤ L.length + d := by
  induction d with
  | zero =>
    intro k i L x hd hL hk
    obtain ⟨k, rfl⟩ : ∃ m, k = m + 1 := ⟨k - 1, by omega⟩
    left
    simp only [spec_l1put.l0]
    rw [if_neg (by omega)]
    simp [putBytes]
  | succ d ih =>
    intro k i L x hd hL hk
    obtain ⟨k, rfl⟩ : ∃ m, k = m + 1 := ⟨k - 1, by omega⟩
    by_cases hb : 1000 ≤ L.length + (d + 1)
    · exact .inr hb
    left
    simp only [spec_l1put.l0]
    rw [if_pos (by omega), if_pos (by omega), wn (by omega)]
    rcases ih k (i + 1) (L ++ [x % 256]) (x / 256) (by omega) (by simp; omega) (by omega) with h | h
    · rw [h, putBytes_cons]
      simp
    · simp at h
      omega
theorem put_some (k n : Nat) (L : List Int) (x : Int) (hL : L.length + n < 1000) (hk : n < k) : spec_l1put.f k L x (n : Int) = some (L ++ putBytes x n) := by
  unfold spec_l1put.f
  rcases put_loop n (by omega) n k 0 L x (by omega) (by omega) hk with h | h
  · exact h
  · omega
/-- One round of the sum. -/
def fnv (h b : Int) : Int := IntKind.u64.wrap ((bits .xor .u64 h (IntKind.u64.wrap b)) * 1099511628211)
def sumOf (l : List Int) : Int := l.foldl fnv 14695981039346656037
theorem sum_loop (l : List Int) (hl : l.length ≤ 1048576) (d : Nat) : ∀ (k i : Nat) (h : Int), l.length - i = d → i ≤ l.length → d < k →
    spec_l1sum.l0 k h l (l.length : Int) (i : Int) = some ((l.drop i).foldl fnv h) ∧ impl_Sum.l0 k h l (l.length : Int) (i : Int) = some (wrap64 ((l.drop i).foldl fnv h)) := by
  induction d with
  | zero =>
    intro k i h hd hi hk
    obtain ⟨k, rfl⟩ : ∃ m, k = m + 1 := ⟨k - 1, by omega⟩
    simp only [spec_l1sum.l0, impl_Sum.l0]
    rw [if_neg (by omega), if_neg (by omega), List.drop_of_length_le (by omega)]
    exact ⟨rfl, rfl⟩
  | succ d ih =>
    intro k i h hd hi hk
    obtain ⟨k, rfl⟩ : ∃ m, k = m + 1 := ⟨k - 1, by omega⟩
    have hlt : i < l.length := by omega
    simp only [spec_l1sum.l0, impl_Sum.l0]
    rw [if_pos (by omega), if_pos (by omega), if_pos (by omega), if_pos (by omega), if_pos (by omega), if_pos (by omega), wn (by omega), rd_at l i hlt, List.drop_eq_getElem_cons hlt]
    exact ih k (i + 1) _ (by omega) (by omega) (by omega)
theorem spec_sum (l : List Int) (hl : l.length ≤ 1048576) (k : Nat) (hk : l.length < k) : spec_l1sum.f k l = some (sumOf l) :=
  (sum_loop l hl l.length k 0 _ (by omega) (by omega) hk).1
theorem impl_sum (l : List Int) (hl : l.length ≤ 1048576) (k : Nat) (hk : l.length < k) : impl_Sum.f k l = some (wrap64 (sumOf l)) :=
  (sum_loop l hl l.length k 0 _ (by omega) (by omega) hk).2
theorem fnv_range (l : List Int) : ∀ h : Int, 0 ≤ h → h < 18446744073709551616 → 0 ≤ l.foldl fnv h ∧ l.foldl fnv h < 18446744073709551616 := by
  induction l with
  | nil => exact fun h h0 h1 => ⟨h0, h1⟩
  | cons b l ih =>
    intro h _ _
    exact ih _ (by unfold fnv; rw [IntKind.wrap_u64]; omega) (by unfold fnv; rw [IntKind.wrap_u64]; omega)
theorem sum_range (l : List Int) : 0 ≤ sumOf l ∧ sumOf l < 18446744073709551616 := fnv_range l _ (by decide) (by decide)
theorem u64_wrap64 {x : Int} (h0 : 0 ≤ x) (h1 : x < 18446744073709551616) : IntKind.u64.wrap (wrap64 x) = x := by
  rw [IntKind.wrap_u64]
  unfold wrap64
  omega
theorem enc_len (a0 a1 a2 a3 : Int) : (encRow a0 a1 a2 a3).length = 18 := by simp [encRow, putBytes_len]
/-- May these four be a packet? -/
def okP (a0 a1 a2 a3 : Int) : Bool := (decide (0 ≤ a1) && decide (a1 ≤ 1000000000) && (decide (0 ≤ a3) && decide (a3 ≤ 1000000000))) && (decide (a0 = 1) || (decide (a0 = 2) && decide (a2 = 0)))
theorem spec_ok (a0 a1 a2 a3 : Int) : spec_PacketOk.f a0 a1 a2 a3 = some (okP a0 a1 a2 a3) := by
  simp only [spec_PacketOk.f, spec_l1in.f, okP]
  by_cases h1 : 0 ≤ a1 <;> by_cases h2 : a1 ≤ 1000000000 <;> by_cases h3 : 0 ≤ a3 <;> by_cases h4 : a3 ≤ 1000000000 <;> simp [h1, h2, h3, h4]
  by_cases h5 : a0 = 1
  · simp [h5]
  · by_cases h6 : a0 = 2 <;> simp [h5, h6]
    by_cases h7 : a2 = 0 <;> simp [h7]
theorem impl_ok (a0 a1 a2 a3 : Int) : impl_PacketOk.f a0 a1 a2 a3 = some (okP a0 a1 a2 a3) := by
  simp only [impl_PacketOk.f, okP]
  by_cases h1 : 0 ≤ a1 <;> by_cases h2 : a1 ≤ 1000000000 <;> by_cases h3 : 0 ≤ a3 <;> by_cases h4 : a3 ≤ 1000000000 <;> by_cases h5 : a0 = 1 <;> by_cases h6 : a0 = 2 <;> by_cases h7 : a2 = 0 <;> simp [h1, h2, h3, h4, h5, h6, h7] <;> omega
/-- The row that both encoders give. -/
def encOf (a0 a1 a2 a3 : Int) : List Int := if okP a0 a1 a2 a3 = true then encRow a0 a1 a2 a3 ++ putBytes (sumOf (encRow a0 a1 a2 a3)) 6 else []
theorem spec_enc (k : Nat) (hk : 100 ≤ k) (a0 a1 a2 a3 : Int) : spec_Encode.f k a0 a1 a2 a3 = some (encOf a0 a1 a2 a3) := by
  simp only [spec_Encode.f, spec_ok, Option.bind_some, encOf]
  by_cases h : okP a0 a1 a2 a3 = true
  · rw [if_pos h, if_pos h]
    have e1 := put_some k 4 [72, a0 % 256] (IntKind.u64.wrap a1) (by simp) (by omega)
    have e2 := put_some k 8 ([72, a0 % 256] ++ putBytes (IntKind.u64.wrap a1) 4) (IntKind.u64.wrap a2) (by simp [putBytes_len]) (by omega)
    have e3 := put_some k 4 ([72, a0 % 256] ++ putBytes (IntKind.u64.wrap a1) 4 ++ putBytes (IntKind.u64.wrap a2) 8) (IntKind.u64.wrap a3) (by simp [putBytes_len]) (by omega)
    have e4 := spec_sum (encRow a0 a1 a2 a3) (by rw [enc_len]; omega) k (by rw [enc_len]; omega)
    have e5 := put_some k 6 (encRow a0 a1 a2 a3) (sumOf (encRow a0 a1 a2 a3)) (by rw [enc_len]; omega) (by omega)
    rw [show (4 : Int) = ((4 : Nat) : Int) from rfl, show (8 : Int) = ((8 : Nat) : Int) from rfl, show (6 : Int) = ((6 : Nat) : Int) from rfl, e1, Option.bind_some, e2, Option.bind_some, e3, Option.bind_some]
    rw [show [72, a0 % 256] ++ putBytes (IntKind.u64.wrap a1) 4 ++ putBytes (IntKind.u64.wrap a2) 8 ++ putBytes (IntKind.u64.wrap a3) 4 = encRow a0 a1 a2 a3 from rfl, e4, Option.bind_some, e5]
    rfl
  · rw [if_neg h, if_neg h]
theorem impl_enc (a0 a1 a2 a3 : Int) : impl_Encode.f a0 a1 a2 a3 = some (encOf a0 a1 a2 a3) := by
  simp only [impl_Encode.f, impl_ok, Option.bind_some, encOf]
  by_cases h : okP a0 a1 a2 a3 = true
  · rw [if_pos h, if_pos h, impl_sum _ (by rw [enc_len]; omega) 100 (by rw [enc_len]; omega), Option.bind_some, u64_wrap64 (sum_range _).1 (sum_range _).2]
  · rw [if_neg h, if_neg h]
def Bytes (l : List Int) : Prop := ∀ x ∈ l, 0 ≤ x ∧ x ≤ 255
theorem put_bytes (x : Int) (n : Nat) : Bytes (putBytes x n) := by
  intro y hy
  simp only [putBytes, List.mem_map] at hy
  obtain ⟨i, _, rfl⟩ := hy
  rw [putByte_eq]
  omega
theorem enc_bytes (a0 a1 a2 a3 : Int) : Bytes (encOf a0 a1 a2 a3) := by
  unfold encOf
  split
  · intro y hy
    simp only [encRow, List.mem_append, List.mem_cons, List.not_mem_nil, or_false] at hy
    rcases hy with ((((rfl | rfl) | h) | h) | h) | h
    · omega
    · omega
    all_goals exact put_bytes _ _ _ h
  · intro y hy
    cases hy
theorem enc_len24 (a0 a1 a2 a3 : Int) (h : okP a0 a1 a2 a3 = true) : (encOf a0 a1 a2 a3).length = 24 := by
  unfold encOf
  rw [if_pos h]
  simp [enc_len, putBytes_len]
theorem enc_le (a0 a1 a2 a3 : Int) : (encOf a0 a1 a2 a3).length ≤ 24 := by
  by_cases h : okP a0 a1 a2 a3 = true
  · rw [enc_len24 _ _ _ _ h]
    omega
  · unfold encOf
    rw [if_neg h]
    simp
theorem same_loop (l : List Int) (hl : l.length ≤ 1048576) (d : Nat) : ∀ (k i : Nat), l.length - i = d → i ≤ l.length → d < k → laws_eqByteS.l0 k l l (i : Int) = some true := by
  induction d with
  | zero =>
    intro k i hd hi hk
    obtain ⟨k, rfl⟩ : ∃ m, k = m + 1 := ⟨k - 1, by omega⟩
    simp only [laws_eqByteS.l0]
    rw [if_neg (by omega)]
  | succ d ih =>
    intro k i hd hi hk
    obtain ⟨k, rfl⟩ : ∃ m, k = m + 1 := ⟨k - 1, by omega⟩
    simp only [laws_eqByteS.l0]
    rw [if_pos (by omega), if_pos (by omega), if_pos (by omega), if_pos trivial, wn (by omega)]
    exact ih k (i + 1) (by omega) (by omega) (by omega)
theorem same_some (l : List Int) (hl : l.length ≤ 1048576) (k : Nat) (hk : l.length < k) : laws_eqByteS.f k l l = some true := by
  unfold laws_eqByteS.f
  rw [if_pos rfl]
  exact same_loop l hl l.length k 0 (by omega) (by omega) hk
end Go.Proofs.Ytbbiloekijjocaa.Pure
