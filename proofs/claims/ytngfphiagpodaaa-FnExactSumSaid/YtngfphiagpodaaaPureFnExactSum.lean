/- The law FnExactSum of numbers and lists alone: the program's sum is the reference's. The list's length fits an int. -/
import Derived.Test.YtngfphiagpodaaaPFnExactSumx1
import Derived.Test.YtngfphiagpodaaaPlain
namespace Go.Proofs.Ytngfphiagpodaaa.Pure
open Go.RowKit Go.Proofs.Ytngfphiagpodaaa.PFnExactSum Go.Proofs.YtngfphiagpodaaaW.PrintWords Go.Proofs.YtngfphiagpodaaaW.PrintLast Go.Proofs.Ytngfphiagpodaaa.Plain

theorem copy_loop (l : List Int) (hl : l.length ≤ 1048576) (d : Nat) : ∀ (k i : Nat), l.length - i = d → i ≤ l.length → d < k →
    laws_toByteS.l0 k l (l.take i ++ List.replicate (l.length - i) 0) (i : Int) = some l := by
  induction d with
  | zero =>
    intro k i hd hi hk
    obtain ⟨k, rfl⟩ : ∃ m, k = m + 1 := ⟨k - 1, by omega⟩
    simp only [laws_toByteS.l0]
    rw [if_neg (by omega)]
    have : i = l.length := by omega
    subst this
    simp
  | succ d ih =>
    intro k i hd hi hk
    obtain ⟨k, rfl⟩ : ∃ m, k = m + 1 := ⟨k - 1, by omega⟩
    have hlt : i < l.length := by omega
    simp only [laws_toByteS.l0]
    rw [if_pos (by omega), if_pos (by omega), rd_at l i hlt, if_pos (by simp; omega), Int.toNat_natCast, fill_step l 0 i hlt, wn (by omega)]
    exact ih k (i + 1) (by omega) (by omega) (by omega)
theorem copy_some (l : List Int) (hl : l.length ≤ 1048576) (k : Nat) (hk : l.length < k) : laws_toByteS.f k l = some l := by
  unfold laws_toByteS.f
  rw [if_pos (by omega), if_pos (by omega), Int.toNat_natCast]
  have h := copy_loop l hl l.length k 0 (by omega) (by omega) hk
  simpa using h
theorem same_loop (l : List Int) (hl : l.length ≤ 1048576) (d : Nat) : ∀ (k i : Nat), l.length - i = d → i ≤ l.length → d < k → laws_eqByteS.l0 k l l (i : Int) = some true := by
  induction d with
  | zero =>
    intro k i hd hi hk
    obtain ⟨k, rfl⟩ : ∃ m, k = m + 1 := ⟨k - 1, by omega⟩
    simp only [laws_eqByteS.l0]
    rw [if_neg (by omega)]
  | succ d ih =>
    intro k i hd hi hk
    obtain ⟨k, rfl⟩ : ∃ m, k = m + 1 := ⟨k - 1, by omega⟩
    simp only [laws_eqByteS.l0]
    rw [if_pos (by omega), if_pos (by omega), if_pos (by omega), if_pos trivial, wn (by omega)]
    exact ih k (i + 1) (by omega) (by omega) (by omega)
theorem same_some (l : List Int) (hl : l.length ≤ 1048576) (k : Nat) (hk : l.length < k) : laws_eqByteS.f k l l = some true := by
  unfold laws_eqByteS.f
  rw [if_pos rfl]
  exact same_loop l hl l.length k 0 (by omega) (by omega) hk
theorem sum_loop (l : List Int) (hl : l.length ≤ 1048576) (d : Nat) : ∀ (k i : Nat) (h : Int), l.length - i = d → i ≤ l.length → d < k →
    ∃ r, spec_l1sum.l0 k h l (l.length : Int) (i : Int) = some r ∧ impl_Sum.l0 k h l (l.length : Int) (i : Int) = some (wrap64 r) := by
  induction d with
  | zero =>
    intro k i h hd hi hk
    obtain ⟨k, rfl⟩ : ∃ m, k = m + 1 := ⟨k - 1, by omega⟩
    simp only [spec_l1sum.l0, impl_Sum.l0]
    rw [if_neg (by omega), if_neg (by omega)]
    exact ⟨h, rfl, rfl⟩
  | succ d ih =>
    intro k i h hd hi hk
    obtain ⟨k, rfl⟩ : ∃ m, k = m + 1 := ⟨k - 1, by omega⟩
    simp only [spec_l1sum.l0, impl_Sum.l0]
    rw [if_pos (by omega), if_pos (by omega), if_pos (by omega), if_pos (by omega), if_pos (by omega), if_pos (by omega), wn (by omega)]
    exact ih k (i + 1) _ (by omega) (by omega) (by omega)
theorem sum_some (l : List Int) (hl : l.length ≤ 1048576) (k : Nat) (hk : l.length < k) : ∃ r, spec_Sum.f k l = some r ∧ impl_Sum.f k l = some r := by
  obtain ⟨r, h1, h2⟩ := sum_loop l hl l.length k 0 14695981039346656037 (by omega) (by omega) hk
  exact ⟨wrap64 r, by simp only [spec_Sum.f, spec_l1sum.f]; rw [show (0 : Int) = ((0 : Nat) : Int) from rfl, h1]; rfl, h2⟩
theorem FnExactSum (l0 : List Int) (_ : l0.length ≤ maxLen) (_ : l0.length * 1 ≤ 140737488351232) (_ : (∀ x ∈ l0, (Lit.int .u8 x).wf = true)) : ∃ k, laws_FnExactSum.f k l0 = some true := by
  refine ⟨l0.length + 1, ?_⟩
  simp only [laws_FnExactSum.f]
  by_cases hl : l0.length ≤ 1048576
  · obtain ⟨r, h1, h2⟩ := sum_some l0 hl (l0.length + 1) (Nat.lt_succ_self _)
    rw [if_neg (by omega), copy_some l0 hl _ (Nat.lt_succ_self _)]
    simp only [Option.bind_some, h1, h2, if_true]
    rw [same_some l0 hl _ (Nat.lt_succ_self _)]
    simp
  · rw [if_pos (by omega)]

end Go.Proofs.Ytngfphiagpodaaa.Pure
