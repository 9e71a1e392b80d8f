/- The law FnExactStood of numbers and lists alone: what the program answers for a version is what the reference answers. The lists' lengths fit an int. -/
import Derived.Test.YtngfphiagpodaaaPFnExactStoodx1
import Derived.Test.YtngfphiagpodaaaPlain
namespace Go.Proofs.Ytngfphiagpodaaa.Pure
open Go.RowKit Go.Proofs.YtngfphiagpodaaaW.PrintWords Go.Proofs.YtngfphiagpodaaaW.PrintLast Go.Proofs.Ytngfphiagpodaaa.PFnExactStood Go.Proofs.Ytngfphiagpodaaa.Plain

def cvSet (x : S74) : S72 := ⟨x.f0, x.f1⟩
theorem rd_laws (l : List S74) (i : Nat) (h : i < l.length) : rd_T74 l (i : Int) = l[i] := by
  unfold rd_T74
  rw [Int.toNat_natCast]
  exact getD_at l _ i h
theorem rd_impl (l : List S72) (i : Nat) (h : i < l.length) : rd_T72 l (i : Int) = l[i] := by
  unfold rd_T72
  rw [Int.toNat_natCast]
  exact getD_at l _ i h
theorem copy_loop (l : List S74) (hl : l.length ≤ 1048576) (d : Nat) : ∀ (k i : Nat), l.length - i = d → i ≤ l.length → d < k →
    laws_toSetS.l0 k l ((l.map cvSet).take i ++ List.replicate (l.length - i) z72) (i : Int) = some (l.map cvSet) := by
  induction d with
  | zero =>
    intro k i hd hi hk
    obtain ⟨k, rfl⟩ : ∃ m, k = m + 1 := ⟨k - 1, by omega⟩
    simp only [laws_toSetS.l0]
    rw [if_neg (by omega)]
    rw [List.take_of_length_le (by simp; omega), show l.length - i = 0 by omega]
    simp
  | succ d ih =>
    intro k i hd hi hk
    obtain ⟨k, rfl⟩ : ∃ m, k = m + 1 := ⟨k - 1, by omega⟩
    have hlt : i < l.length := by omega
    simp only [laws_toSetS.l0]
    rw [if_pos (by omega), if_pos (by omega), rd_laws l i hlt]
    simp only [laws_toSet.f, Option.bind_some]
    have e := fill_step (l.map cvSet) z72 i (by simpa using hlt)
    simp only [List.length_map, List.getElem_map] at e
    rw [if_pos (by simp; omega), Int.toNat_natCast, show (⟨l[i].f0, l[i].f1⟩ : S72) = cvSet l[i] from rfl, e, wn (by omega)]
    exact ih k (i + 1) (by omega) (by omega) (by omega)
theorem copy_some (l : List S74) (hl : l.length ≤ 1048576) (k : Nat) (hk : l.length < k) : laws_toSetS.f k l = some (l.map cvSet) := by
  unfold laws_toSetS.f
  rw [if_pos (by omega), if_pos (by omega), Int.toNat_natCast]
  have h := copy_loop l hl l.length k 0 (by omega) (by omega) hk
  simpa using h
theorem same_loop (l : List S72) (hl : l.length ≤ 1048576) (d : Nat) : ∀ (k i : Nat), l.length - i = d → i ≤ l.length → d < k → laws_eqSetS.l0 k l l (i : Int) = some true := by
  induction d with
  | zero =>
    intro k i hd hi hk
    obtain ⟨k, rfl⟩ : ∃ m, k = m + 1 := ⟨k - 1, by omega⟩
    simp only [laws_eqSetS.l0]
    rw [if_neg (by omega)]
  | succ d ih =>
    intro k i hd hi hk
    obtain ⟨k, rfl⟩ : ∃ m, k = m + 1 := ⟨k - 1, by omega⟩
    simp only [laws_eqSetS.l0]
    rw [if_pos (by omega), if_pos (by omega), if_pos (by omega)]
    simp only [laws_eqSet.f, if_true, Option.bind_some]
    rw [wn (by omega)]
    exact ih k (i + 1) (by omega) (by omega) (by omega)
theorem same_some (l : List S72) (hl : l.length ≤ 1048576) (k : Nat) (hk : l.length < k) : laws_eqSetS.f k l l = some true := by
  unfold laws_eqSetS.f
  rw [if_pos rfl]
  exact same_loop l hl l.length k 0 (by omega) (by omega) hk
theorem stood_same (l : List S72) (v : Int) (hv : -9223372036854775808 ≤ v ∧ v ≤ 9223372036854775807) : ∃ r, spec_Stood.f l v = some r ∧ impl_Stood.f l v = some r := by
  simp only [spec_Stood.f, spec_l1in.f, impl_Stood.f]
  by_cases h1 : 1 ≤ v
  · rw [if_pos (show v ≥ 1 from h1), if_neg (show ¬ v < 1 by omega)]
    by_cases h2 : v ≤ (l.length : Int)
    · have e : wrap64 (v - 1) = v - 1 := w64 (by omega) (by omega)
      rw [e, if_neg (show ¬ v > (l.length : Int) by omega), if_pos (by omega), if_pos (by omega)]
      exact ⟨_, by simp [h2], rfl⟩
    · rw [if_pos (show v > (l.length : Int) by omega)]
      exact ⟨0, by simp [h2], rfl⟩
  · rw [if_neg (show ¬ v ≥ 1 by omega), if_pos (show v < 1 by omega)]
    exact ⟨0, by simp, rfl⟩
theorem FnExactStood (l0 : List S74) (a1 : Int) (hm : l0.length ≤ 9223372036854775807) (_ : (∀ x ∈ l0, (Lit.int .i64 x.f0).wf = true ∧ (Lit.int .i64 x.f1).wf = true)) (ha : (Lit.int .i64 a1).wf = true) : ∃ k, laws_FnExactStood.f k l0 a1 = some true := by
  refine ⟨l0.length + 1, ?_⟩
  have e : wrap64 (1048576 - (l0.length : Int)) = 1048576 - (l0.length : Int) := w64 (by omega) (by omega)
  simp only [laws_FnExactStood.f, laws_szSetS.f, e]
  by_cases hl : l0.length ≤ 1048576
  · obtain ⟨r, h1, h2⟩ := stood_same (l0.map cvSet) a1 (wf_bounds ha)
    rw [if_neg (by omega)]
    simp only [Option.bind_some]
    rw [if_neg (by omega), copy_some l0 hl _ (Nat.lt_succ_self _)]
    simp only [Option.bind_some, h1, h2, if_true]
    rw [same_some (l0.map cvSet) (by simpa using hl) _ (by simp)]
    simp
  · rw [if_pos (by omega)]
    simp

end Go.Proofs.Ytngfphiagpodaaa.Pure
