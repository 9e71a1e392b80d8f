/- The law FnExactDecode of numbers and lists alone. -/
import Derived.Test.YtbbiloekijjocaaPAllx7
import Derived.Test.YtbbiloekijjocaaBytb
namespace Go.Proofs.Ytbbiloekijjocaa.Pure
open Go.RowKit Go.Proofs.YtbbiloekijjocaaW.PrintWords Go.Proofs.YtbbiloekijjocaaW.PrintLast Go.Proofs.Ytbbiloekijjocaa.PAll Go.Proofs.Ytbbiloekijjocaa.Plain

theorem copy_loop (l : List Int) (hl : l.length ≤ 1048576) (d : Nat) : ∀ (k i : Nat), l.length - i = d → i ≤ l.length → d < k →
    laws_toByteS.l0 k l (l.take i ++ List.replicate (l.length - i) 0) (i : Int) = some l := by
  induction d with
  | zero =>
    intro k i hd hi hk
    obtain ⟨k, rfl⟩ : ∃ m, k = m + 1 := ⟨k - 1, by omega⟩
    simp only [laws_toByteS.l0]
    rw [if_neg (by omega)]
    have : i = l.length := by omega
    subst this
    simp
  | succ d ih =>
    intro k i hd hi hk
    obtain ⟨k, rfl⟩ : ∃ m, k = m + 1 := ⟨k - 1, by omega⟩
    have hlt : i < l.length := by omega
    simp only [laws_toByteS.l0]
    rw [if_pos (by omega), if_pos (by omega), rd_at l i hlt, if_pos (by simp; omega), Int.toNat_natCast, fill_step l 0 i hlt, wn (by omega)]
    exact ih k (i + 1) (by omega) (by omega) (by omega)
theorem copy_some (l : List Int) (hl : l.length ≤ 1048576) (k : Nat) (hk : l.length < k) : laws_toByteS.f k l = some l := by
  unfold laws_toByteS.f
  rw [if_pos (by omega), if_pos (by omega), Int.toNat_natCast]
  have h := copy_loop l hl l.length k 0 (by omega) (by omega) hk
  simpa using h
theorem FnExactDecode (l0 : List Int) (_ : l0.length ≤ maxLen) (_ : l0.length * 1 ≤ 140737488351232) (hw : (∀ x ∈ l0, (Lit.int .u8 x).wf = true)) : ∃ k, laws_FnExactDecode.f k l0 = some true := by
  refine ⟨l0.length + 100, ?_⟩
  simp only [laws_FnExactDecode.f]
  have hb : Bytes l0 := fun x hx => wf_byte (hw x hx)
  by_cases hl : l0.length ≤ 1048576
  · rw [if_neg (by omega), copy_some l0 hl _ (by omega), Option.bind_some, spec_dec l0 hb _ (by omega)]
    simp only [Option.bind_some, impl_dec l0 hb]
    simp only [Option.bind_some, laws_eqPacket.f, if_true]
    rw [same_some l0 hl _ (by omega)]
    simp
  · rw [if_pos (by omega)]

end Go.Proofs.Ytbbiloekijjocaa.Pure
