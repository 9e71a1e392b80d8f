/- The law FnExactEncode of numbers and lists alone. -/
import Derived.Test.YtbbiloekijjocaaPAllx3
import Derived.Test.YtbbiloekijjocaaByt
namespace Go.Proofs.Ytbbiloekijjocaa.Pure
open Go.RowKit Go.Proofs.YtbbiloekijjocaaW.PrintWords Go.Proofs.YtbbiloekijjocaaW.PrintLast Go.Proofs.Ytbbiloekijjocaa.PAll Go.Proofs.Ytbbiloekijjocaa.Plain

/-- The marks that a marked row of n bytes holds. -/
def marks (n : Nat) : List Int := (List.range n).map fun j : Nat => (1 + (j : Int)) % 256
theorem marks_len (n : Nat) : (marks n).length = n := by simp [marks]
theorem marks_succ (n : Nat) : marks (n + 1) = marks n ++ [(1 + (n : Int)) % 256] := by simp [marks, List.range_succ]
theorem mark_loop (L : List Int) (hl : L.length ≤ 1048576) (d : Nat) : ∀ (k i : Nat), L.length - i = d → i ≤ L.length → d < k →
    laws_markByteS.l0 k (marks i ++ L.drop i) (1 + (i : Int)) (i : Int) = some (1 + (L.length : Int), marks L.length) := by
  induction d with
  | zero =>
    intro k i hd hi hk
    obtain ⟨k, rfl⟩ : ∃ m, k = m + 1 := ⟨k - 1, by omega⟩
    have : i = L.length := by omega
    subst this
    simp only [laws_markByteS.l0]
    rw [if_neg (by simp [marks_len])]
    simp
  | succ d ih =>
    intro k i hd hi hk
    obtain ⟨k, rfl⟩ : ∃ m, k = m + 1 := ⟨k - 1, by omega⟩
    have hlt : i < L.length := by omega
    simp only [laws_markByteS.l0]
    rw [if_pos (by simp [marks_len]; omega), if_pos (by omega), Int.toNat_natCast]
    have e : (marks i ++ L.drop i).set i ((1 + (i : Int)) % 256) = marks (i + 1) ++ L.drop (i + 1) := by
      rw [List.drop_eq_getElem_cons hlt, List.set_append_right _ _ (by rw [marks_len]; omega), marks_len, Nat.sub_self, List.set_cons_zero, marks_succ, List.append_assoc]
      rfl
    rw [e, wn (by omega), show (1 : Int) + (i : Int) + 1 = 1 + ((i + 1 : Nat) : Int) by omega, w64 (by omega) (by omega)]
    exact ih k (i + 1) (by omega) (by omega) (by omega)
theorem mark_some (L : List Int) (hl : L.length ≤ 1048576) (k : Nat) (hk : L.length < k) : laws_markByteS.f k L 1 = some (1 + (L.length : Int), marks L.length) := by
  have h := mark_loop L hl L.length k 0 (by omega) (by omega) hk
  simpa [laws_markByteS.f, marks] using h
theorem held_loop (n : Nat) (hl : n ≤ 1048576) (d : Nat) : ∀ (k i : Nat), n - i = d → i ≤ n → d < k →
    laws_heldByteS.l0 k (marks n) (1 + (i : Int)) (i : Int) = some (1 + (n : Int)) := by
  induction d with
  | zero =>
    intro k i hd hi hk
    obtain ⟨k, rfl⟩ : ∃ m, k = m + 1 := ⟨k - 1, by omega⟩
    have : i = n := by omega
    subst this
    simp only [laws_heldByteS.l0]
    rw [if_neg (by simp [marks_len])]
  | succ d ih =>
    intro k i hd hi hk
    obtain ⟨k, rfl⟩ : ∃ m, k = m + 1 := ⟨k - 1, by omega⟩
    have hlt : i < (marks n).length := by rw [marks_len]; omega
    simp only [laws_heldByteS.l0]
    rw [if_pos (by rw [marks_len]; omega), if_pos (by omega), rd_at _ i hlt, if_pos (by simp [marks]), wn (by omega), show (1 : Int) + (i : Int) + 1 = 1 + ((i + 1 : Nat) : Int) by omega, w64 (by omega) (by omega)]
    exact ih k (i + 1) (by omega) (by omega) (by omega)
theorem held_some (n : Nat) (hl : n ≤ 1048576) (k : Nat) (hk : n < k) : laws_heldByteS.f k (marks n) 1 = some (1 + (n : Int)) := by
  have h := held_loop n hl n k 0 (by omega) (by omega) hk
  simpa [laws_heldByteS.f] using h
theorem FnExactEncode (a0_0 a0_1 a0_2 a0_3 : Int) (_ : (Lit.int .i64 a0_0).wf = true) (_ : (Lit.int .i64 a0_1).wf = true) (_ : (Lit.int .i64 a0_2).wf = true) (_ : (Lit.int .i64 a0_3).wf = true) : ∃ k, laws_FnExactEncode.f k a0_0 a0_1 a0_2 a0_3 = some true := by
  refine ⟨100, ?_⟩
  have hl := enc_le a0_0 a0_1 a0_2 a0_3
  simp only [laws_FnExactEncode.f, laws_toPacket.f, Option.bind_some, spec_enc 100 (Nat.le_refl _), impl_enc]
  rw [same_some _ (by omega) 100 (by omega), mark_some _ (by omega) 100 (by omega)]
  simp only [Option.bind_some, if_true]
  rw [held_some _ (by omega) 100 (by omega)]
  simp only [Option.bind_some, if_true]
  rw [if_neg (by omega), if_neg (by omega)]

end Go.Proofs.Ytbbiloekijjocaa.Pure
