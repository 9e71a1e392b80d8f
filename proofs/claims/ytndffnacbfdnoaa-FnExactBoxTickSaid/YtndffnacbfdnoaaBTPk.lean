-- Lines of Pk that this claim uses.
import Derived.Test.YtndffnacbfdnoaaBTPAllx5
import Derived.Test.YtndffnacbfdnoaaBTPAllx7
import Derived.Test.YtndffnacbfdnoaaBTPAllx8
import Derived.Test.YtndffnacbfdnoaaBTPAllx9
import Derived.Test.YtndffnacbfdnoaaBTPAllx10
import Derived.Test.YtndffnacbfdnoaaBTPlain
namespace Go.Proofs.Ytndffnacbfdnoaa.Pure
open Go.RowKit Go.Proofs.YtndffnacbfdnoaaW.PrintWords Go.Proofs.YtndffnacbfdnoaaW.PrintLast Go.Proofs.Ytndffnacbfdnoaa.PAll Go.Proofs.Ytndffnacbfdnoaa.Plain
def conv (x : S99) : S60 := ⟨x.f0, x.f1, x.f2, x.f3⟩
theorem rd60 (L : List S60) (i : Nat) (h : i < L.length) : rd_T60 L (i : Int) = L[i] := by
  unfold rd_T60
  rw [Int.toNat_natCast]
  exact getD_at L z60 i h
theorem rd99 (L : List S99) (i : Nat) (h : i < L.length) : rd_T99 L (i : Int) = L[i] := by
  unfold rd_T99
  rw [Int.toNat_natCast]
  exact getD_at L z99 i h
theorem rd60_mid (A B : List S60) (x : S60) : rd_T60 (A ++ x :: B) (A.length : Int) = x := by
  rw [rd60 _ _ (by simp)]
  simp
theorem set_mid {α : Type} (A B : List α) (x y : α) : (A ++ x :: B).set A.length y = (A ++ [y]) ++ B := by
  rw [List.set_append_right _ _ (Nat.le_refl _), Nat.sub_self, List.set_cons_zero]
  simp
theorem to_loop (l : List S99) (hl : l.length ≤ 1048576) (d : Nat) : ∀ (k i : Nat), l.length - i = d → i ≤ l.length → d < k →
    laws_toPacketS.l0 k l ((l.map conv).take i ++ List.replicate (l.length - i) z60) (i : Int) = some (l.map conv) := by
  induction d with
  | zero =>
    intro k i hd hi hk
    obtain ⟨k, rfl⟩ : ∃ m, k = m + 1 := ⟨k - 1, by omega⟩
    simp only [laws_toPacketS.l0]
    rw [if_neg (by omega)]
    have : i = l.length := by omega
    subst this
    rw [List.take_of_length_le (by simp)]
    simp
  | succ d ih =>
    intro k i hd hi hk
    obtain ⟨k, rfl⟩ : ∃ m, k = m + 1 := ⟨k - 1, by omega⟩
    have hlt : i < l.length := by omega
    have hm : i < (l.map conv).length := by simpa using hlt
    simp only [laws_toPacketS.l0, laws_toPacket.f, Option.bind_some]
    have fs := fill_step (l.map conv) z60 i hm
    rw [List.length_map] at fs
    have hg : (l.map conv)[i] = (⟨(l[i]).f0, (l[i]).f1, (l[i]).f2, (l[i]).f3⟩ : S60) := by simp [conv]
    rw [hg] at fs
    rw [if_pos (by omega), if_pos (by omega), rd99 l i hlt, if_pos (by simp; omega), Int.toNat_natCast, fs, wn (by omega)]
    exact ih k (i + 1) (by omega) (by omega) (by omega)
theorem to_some (l : List S99) (hl : l.length ≤ 1048576) (k : Nat) (hk : l.length < k) : laws_toPacketS.f k l = some (l.map conv) := by
  unfold laws_toPacketS.f
  rw [if_pos (by omega), if_pos (by omega), Int.toNat_natCast]
  have h := to_loop l hl l.length k 0 (by omega) (by omega) hk
  simpa using h
theorem eqp_self (a b c d : Int) : laws_eqPacket.f a b c d a b c d = some true := by simp [laws_eqPacket.f]
theorem eq_loop (l : List S60) (hl : l.length ≤ 1048576) (d : Nat) : ∀ (k i : Nat), l.length - i = d → i ≤ l.length → d < k → laws_eqPacketS.l0 k l l (i : Int) = some true := by
  induction d with
  | zero =>
    intro k i hd hi hk
    obtain ⟨k, rfl⟩ : ∃ m, k = m + 1 := ⟨k - 1, by omega⟩
    simp only [laws_eqPacketS.l0]
    rw [if_neg (by omega)]
  | succ d ih =>
    intro k i hd hi hk
    obtain ⟨k, rfl⟩ : ∃ m, k = m + 1 := ⟨k - 1, by omega⟩
    simp only [laws_eqPacketS.l0]
    rw [if_pos (by omega), if_pos (by omega), if_pos (by omega), eqp_self, Option.bind_some, if_pos rfl, wn (by omega)]
    exact ih k (i + 1) (by omega) (by omega) (by omega)
theorem eq_some (l : List S60) (hl : l.length ≤ 1048576) (k : Nat) (hk : l.length < k) : laws_eqPacketS.f k l l = some true := by
  unfold laws_eqPacketS.f
  rw [if_pos rfl]
  exact eq_loop l hl l.length k 0 (by omega) (by omega) hk
def mk (i : Nat) : Nat → List S60
  | 0 => []
  | n + 1 => ⟨1 + 4 * (i : Int), 2 + 4 * (i : Int), 3 + 4 * (i : Int), 4 + 4 * (i : Int)⟩ :: mk (i + 1) n
theorem mark_loop : ∀ (B A : List S60) (k : Nat), A.length + B.length ≤ 1048576 → B.length < k →
    laws_markPacketS.l0 k (A ++ B) (1 + 4 * (A.length : Int)) (A.length : Int) = some (1 + 4 * ((A.length + B.length : Nat) : Int), A ++ mk A.length B.length) := by
  intro B
  induction B with
  | nil =>
    intro A k hl hk
    obtain ⟨k, rfl⟩ : ∃ m, k = m + 1 := ⟨k - 1, by omega⟩
    simp only [laws_markPacketS.l0]
    rw [if_neg (by simp)]
    rfl
  | cons x B ih =>
    intro A k hl hk
    simp only [List.length_cons] at hl hk
    obtain ⟨k, rfl⟩ : ∃ m, k = m + 1 := ⟨k - 1, by omega⟩
    simp only [laws_markPacketS.l0, Option.bind_some, Int.toNat_natCast]
    rw [if_pos (by simp; omega), if_pos (by omega)]
    simp only [rd60_mid, set_mid, List.append_assoc, List.singleton_append]
    rw [wn (by omega), w64 (x := 1 + 4 * (A.length : Int) + 1) (by omega) (by omega), w64 (x := 1 + 4 * (A.length : Int) + 1 + 1) (by omega) (by omega), w64 (x := 1 + 4 * (A.length : Int) + 1 + 1 + 1) (by omega) (by omega), w64 (x := 1 + 4 * (A.length : Int) + 1 + 1 + 1 + 1) (by omega) (by omega)]
    have h := ih (A ++ [⟨1 + 4 * (A.length : Int), 1 + 4 * (A.length : Int) + 1, 1 + 4 * (A.length : Int) + 1 + 1, 1 + 4 * (A.length : Int) + 1 + 1 + 1⟩]) k (by simp; omega) (by omega)
    simp only [List.length_append, List.length_cons, List.length_nil, List.append_assoc, List.singleton_append] at h
    rw [show (1 : Int) + 4 * (A.length : Int) + 1 + 1 + 1 + 1 = 1 + 4 * ((A.length + (0 + 1) : Nat) : Int) by omega, show A.length + 1 = A.length + (0 + 1) by omega, h]
    rw [show A.length + (0 + 1) + B.length = A.length + (B.length + 1) by omega, List.length_cons, mk, show (1 : Int) + 4 * (A.length : Int) + 1 = 2 + 4 * (A.length : Int) by omega, show (2 : Int) + 4 * (A.length : Int) + 1 = 3 + 4 * (A.length : Int) by omega, show (3 : Int) + 4 * (A.length : Int) + 1 = 4 + 4 * (A.length : Int) by omega]
theorem mark_some (l : List S60) (hl : l.length ≤ 1048576) (k : Nat) (hk : l.length < k) : laws_markPacketS.f k l 1 = some (1 + 4 * (l.length : Int), mk 0 l.length) := by
  have h := mark_loop l [] k (by simpa using hl) hk
  simpa [laws_markPacketS.f] using h
theorem held_loop : ∀ (n : Nat) (A : List S60) (k : Nat), A.length + n ≤ 1048576 → n < k →
    laws_heldPacketS.l0 k (A ++ mk A.length n) (1 + 4 * (A.length : Int)) (A.length : Int) = some (1 + 4 * ((A.length + n : Nat) : Int)) := by
  intro n
  induction n with
  | zero =>
    intro A k hl hk
    obtain ⟨k, rfl⟩ : ∃ m, k = m + 1 := ⟨k - 1, by omega⟩
    simp only [laws_heldPacketS.l0]
    rw [if_neg (by simp [mk])]
    rfl
  | succ n ih =>
    intro A k hl hk
    obtain ⟨k, rfl⟩ : ∃ m, k = m + 1 := ⟨k - 1, by omega⟩
    simp only [laws_heldPacketS.l0, mk]
    have c1 : (A.length : Int) < ((A ++ (⟨1 + 4 * (A.length : Int), 2 + 4 * (A.length : Int), 3 + 4 * (A.length : Int), 4 + 4 * (A.length : Int)⟩ :: mk (A.length + 1) n)).length : Int) := by
      rw [List.length_append, List.length_cons]
      omega
    have c2 : (0 : Int) ≤ (A.length : Int) := by omega
    simp only [c1, c2, if_true]
    simp only [rd60_mid]
    rw [wn (by omega), w64 (x := 1 + 4 * (A.length : Int) + 1) (by omega) (by omega), w64 (x := 1 + 4 * (A.length : Int) + 1 + 1) (by omega) (by omega), w64 (x := 1 + 4 * (A.length : Int) + 1 + 1 + 1) (by omega) (by omega), w64 (x := 1 + 4 * (A.length : Int) + 1 + 1 + 1 + 1) (by omega) (by omega)]
    rw [if_pos trivial, if_pos (by omega), if_pos (by omega), if_pos (by omega)]
    have h := ih (A ++ [⟨1 + 4 * (A.length : Int), 2 + 4 * (A.length : Int), 3 + 4 * (A.length : Int), 4 + 4 * (A.length : Int)⟩]) k (by simp; omega) (by omega)
    simp only [List.length_append, List.length_cons, List.length_nil, List.append_assoc, List.singleton_append] at h
    rw [show (1 : Int) + 4 * (A.length : Int) + 1 + 1 + 1 + 1 = 1 + 4 * ((A.length + (0 + 1) : Nat) : Int) by omega, show A.length + 1 = A.length + (0 + 1) by omega, h]
    rw [show A.length + (0 + 1) + n = A.length + (n + 1) by omega]
theorem held_some (n : Nat) (hl : n ≤ 1048576) (k : Nat) (hk : n < k) : laws_heldPacketS.f k (mk 0 n) 1 = some (1 + 4 * (n : Int)) := by
  have h := held_loop n [] k (by simpa using hl) hk
  simpa [laws_heldPacketS.f] using h
theorem rules_same (a b c : Int) : ∃ r, spec_RulesOk.f a b c = some r ∧ impl_RulesOk.f a b c = some r := by
  simp only [spec_RulesOk.f, spec_l1in.f, impl_RulesOk.f]
  by_cases h1 : a ≥ 1 <;> by_cases h2 : a ≤ 1000 <;> by_cases h3 : b ≥ 1 <;> by_cases h4 : b ≤ 10000 <;> by_cases h5 : c ≥ 0 <;> simp [h1, h2, h3, h4, h5]
theorem pok_same (a b c d : Int) : ∃ r, spec_PacketOk.f a b c d = some r ∧ impl_PacketOk.f a b c d = some r := by
  simp only [spec_PacketOk.f, spec_l1in.f, impl_PacketOk.f]
  by_cases h1 : a = 1 <;> by_cases h2 : a = 2 <;> by_cases h3 : b ≥ 0 <;> by_cases h4 : b ≤ 1000000000 <;> by_cases h5 : d ≥ 0 <;> by_cases h6 : d ≤ 1000000000 <;> by_cases h7 : c = 0 <;> simp [h1, h2, h3, h4, h5, h6, h7] <;> omega
theorem pks_loop (t : Int) (l : List S60) (hl : l.length ≤ 1048576) (d : Nat) : ∀ (k i : Nat), l.length - i = d → i ≤ l.length → d < k →
    ∃ r, spec_l2packets.l0 k t l l (l.length : Int) (i : Int) = some (r && decide ((l.length : Int) ≤ 1000)) ∧ impl_packetsOk.l0 k t l (l.length : Int) (i : Int) = some r := by
  induction d with
  | zero =>
    intro k i hd hi hk
    obtain ⟨k, rfl⟩ : ∃ m, k = m + 1 := ⟨k - 1, by omega⟩
    simp only [spec_l2packets.l0, impl_packetsOk.l0]
    rw [if_neg (by omega), if_neg (by omega)]
    exact ⟨true, by simp, rfl⟩
  | succ d ih =>
    intro k i hd hi hk
    obtain ⟨k, rfl⟩ : ∃ m, k = m + 1 := ⟨k - 1, by omega⟩
    simp only [spec_l2packets.l0, impl_packetsOk.l0]
    obtain ⟨b, e1, e2⟩ := pok_same (rd_T60 l (i : Int)).f0 (rd_T60 l (i : Int)).f1 (rd_T60 l (i : Int)).f2 (rd_T60 l (i : Int)).f3
    obtain ⟨r, g1, g2⟩ := ih k (i + 1) (by omega) (by omega) (by omega)
    have c1 : (i : Int) < (l.length : Int) := by omega
    have c2 : (0 : Int) ≤ (i : Int) := by omega
    have c3 : wrap64 ((i : Int) + 1) = ((i + 1 : Nat) : Int) := wn (by omega)
    simp only [c1, c2, c3, if_true, e1, e2, g1, g2, Option.bind_some]
    by_cases hb : b = true
    · rw [if_pos hb, if_pos hb]
      by_cases hf : (rd_T60 l (i : Int)).f3 > t
      · rw [if_pos hf, if_pos hf]
        exact ⟨false, by simp, rfl⟩
      · rw [if_neg hf, if_neg hf]
        exact ⟨r, rfl, rfl⟩
    · rw [if_neg hb, if_neg hb]
      exact ⟨false, by simp, rfl⟩
theorem pks_same (t : Int) (l : List S60) (hl : l.length ≤ 1048576) (k : Nat) (hk : l.length < k) : ∃ r, spec_l2packets.f k t l = some r ∧ impl_packetsOk.f k t l = some r ∧ (r = true → l.length ≤ 1000) := by
  obtain ⟨r, g1, g2⟩ := pks_loop t l hl l.length k 0 (by omega) (by omega) hk
  refine ⟨r && decide ((l.length : Int) ≤ 1000), g1, ?_, fun h => by simp at h; omega⟩
  unfold impl_packetsOk.f
  by_cases h : (l.length : Int) > 1000
  · rw [if_pos h, decide_eq_false (by omega)]
    simp
  · rw [if_neg h, decide_eq_true (by omega)]
    simpa using g2
end Go.Proofs.Ytndffnacbfdnoaa.Pure
