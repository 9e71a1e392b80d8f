-- Lines of PureFnExactRun that this claim uses.
import Derived.Test.YtndffnacbfdnoaaRUPAllx26
set_option linter.unusedSimpArgs false
set_option linter.unusedVariables false
namespace Go.Proofs.Ytndffnacbfdnoaa.Pure
open Go.RowKit Go.Proofs.YtndffnacbfdnoaaW.PrintWords Go.Proofs.YtndffnacbfdnoaaW.PrintLast Go.Proofs.Ytndffnacbfdnoaa.PAll Go.Proofs.Ytndffnacbfdnoaa.Plain
def conv84 (x : S127) : S84 := ⟨x.f0, x.f1⟩
def fsum : List (List Int) → Nat
 | [] => 0
 | f :: r => f.length + fsum r
theorem fsum_mem : ∀ (l : List (List Int)) (f : List Int), f ∈ l → f.length ≤ fsum l
 | g :: l, f, h => by
  show f.length ≤ g.length + fsum l
  rcases List.mem_cons.1 h with rfl | h
  ·omega
  ·have := fsum_mem l f h
   omega
theorem fcost_mem : ∀ (l : List (List Int)) (f : List Int), f ∈ l → f.length ≤ fcost l
 | g :: l, f, h => by
  show f.length ≤ g.length + 2 + fcost l
  rcases List.mem_cons.1 h with rfl | h
  ·omega
  ·have := fcost_mem l f h
   omega
theorem fcost_len : ∀ (l : List (List Int)), l.length ≤ fcost l
 | [] => Nat.le_refl _
 | g :: l => by
  have := fcost_len l
  show l.length + 1 ≤ g.length + 2 + fcost l
  omega
theorem rd127_at (l : List S127) (i : Nat) (h : i < l.length) : rd_T127 l (i : Int) = l[i] := by simp [rd_T127, List.getD_eq_getElem?_getD, h]
theorem sz_loop (l : List (List Int)) (hl : l.length ≤ 9223372036854775807) (hf : ∀ f, f ∈ l → f.length ≤ 9223372036854775807) (d : Nat) : ∀ (k i : Nat) (x : Int), l.length - i = d → i ≤ l.length → d < k → 0 ≤ x → x ≤ 1048576 → ∃ t, laws_szIntSS.l0 k l x (i : Int) = some t ∧ (0 ≤ t → (fsum (l.drop i) : Int) ≤ x) := by
 induction d with
 | zero =>
  intro k i x hd hi hk h0 h1
  obtain ⟨k, rfl⟩ : ∃ m, k = m + 1 := ⟨k - 1, by omega⟩
  simp only [laws_szIntSS.l0]
  rw [if_neg (by omega), List.drop_of_length_le (by omega)]
  exact ⟨x, rfl, fun _ => by simpa [fsum] using h0⟩
 | succ d ih =>
  intro k i x hd hi hk h0 h1
  obtain ⟨k, rfl⟩ : ∃ m, k = m + 1 := ⟨k - 1, by omega⟩
  have hlt : i < l.length := by omega
  have hlf := hf _ (List.getElem_mem hlt)
  simp only [laws_szIntSS.l0, laws_szIntS.f]
  rw [if_pos (by omega), if_pos (by omega), rd5_at l i hlt, w64 (x := x - (l[i].length : Int)) (by omega) (by omega), wn (by omega)]
  by_cases hn : x - (l[i].length : Int) < 0
  ·rw [if_pos hn, Option.bind_some, if_pos (by omega)]
   exact ⟨-1, rfl, fun h => absurd h (by omega)⟩
  ·rw [if_neg hn, Option.bind_some, if_neg hn]
   obtain ⟨t, h2, h3⟩ := ih k (i + 1) (x - (l[i].length : Int)) (by omega) (by omega) (by omega) (by omega) (by omega)
   refine ⟨t, h2, fun ht => ?_⟩
   have h4 := h3 ht
   rw [List.drop_eq_getElem_cons hlt]
   show ((l[i].length + fsum (l.drop (i + 1)) : Nat) : Int) ≤ x
   omega
theorem sz_is (l : List (List Int)) (hl : l.length ≤ 9223372036854775807) (hf : ∀ f, f ∈ l → f.length ≤ 9223372036854775807) (x : Int) (h0 : 0 ≤ x) (h1 : x ≤ 1048576) (k : Nat) (hk : l.length < k) : ∃ t, laws_szIntSS.f k l x = some t ∧ (0 ≤ t → l.length ≤ 1048576 ∧ fsum l ≤ 1048576) := by
 unfold laws_szIntSS.f
 rw [w64 (x := x - (l.length : Int)) (by omega) (by omega)]
 by_cases hn : x - (l.length : Int) < 0
 ·rw [if_pos hn]
  exact ⟨-1, rfl, fun h => absurd h (by omega)⟩
 ·rw [if_neg hn]
  obtain ⟨t, h2, h3⟩ := sz_loop l hl hf l.length k 0 (x - (l.length : Int)) (by omega) (by omega) hk (by omega) (by omega)
  refine ⟨t, h2, fun ht => ?_⟩
  have h4 := h3 ht
  rw [List.drop_zero] at h4
  constructor <;> omega
theorem toset_loop (l : List S127) (hl : l.length ≤ 1048576) (d : Nat) : ∀ (k i : Nat), l.length - i = d → i ≤ l.length → d < k →
  laws_toSetS.l0 k l ((l.map conv84).take i ++ List.replicate (l.length - i) z84) (i : Int) = some (l.map conv84) := by
 induction d with
 | zero =>
  intro k i hd hi hk
  obtain ⟨k, rfl⟩ : ∃ m, k = m + 1 := ⟨k - 1, by omega⟩
  simp only [laws_toSetS.l0]
  rw [if_neg (by omega)]
  have : i = l.length := by omega
  subst this
  rw [List.take_of_length_le (by simp)]
  simp
 | succ d ih =>
  intro k i hd hi hk
  obtain ⟨k, rfl⟩ : ∃ m, k = m + 1 := ⟨k - 1, by omega⟩
  have hlt : i < l.length := by omega
  have hm : i < (l.map conv84).length := by simpa using hlt
  simp only [laws_toSetS.l0, laws_toSet.f, Option.bind_some]
  have fs := fill_step (l.map conv84) z84 i hm
  rw [List.length_map] at fs
  have hg : (l.map conv84)[i] = (⟨(l[i]).f0, (l[i]).f1⟩ : S84) := by simp [conv84]
  rw [hg] at fs
  rw [if_pos (by omega), if_pos (by omega), rd127_at l i hlt, if_pos (by simp; omega), Int.toNat_natCast, fs, wn (by omega)]
  exact ih k (i + 1) (by omega) (by omega) (by omega)
theorem toset_is (l : List S127) (hl : l.length ≤ 1048576) (k : Nat) (hk : l.length < k) : laws_toSetS.f k l = some (l.map conv84) := by
 unfold laws_toSetS.f
 rw [if_pos (by omega), if_pos (by omega), Int.toNat_natCast]
 have h := toset_loop l hl l.length k 0 (by omega) (by omega) hk
 simpa using h
theorem toints_loop (l : List Int) (hl : l.length ≤ 1048576) (d : Nat) : ∀ (k i : Nat), l.length - i = d → i ≤ l.length → d < k →
  laws_toIntS.l0 k l (l.take i ++ List.replicate (l.length - i) 0) (i : Int) = some l := by
 induction d with
 | zero =>
  intro k i hd hi hk
  obtain ⟨k, rfl⟩ : ∃ m, k = m + 1 := ⟨k - 1, by omega⟩
  simp only [laws_toIntS.l0]
  rw [if_neg (by omega)]
  have : i = l.length := by omega
  subst this
  simp
 | succ d ih =>
  intro k i hd hi hk
  obtain ⟨k, rfl⟩ : ∃ m, k = m + 1 := ⟨k - 1, by omega⟩
  have hlt : i < l.length := by omega
  simp only [laws_toIntS.l0]
  rw [if_pos (by omega), if_pos (by omega), rd_at l i hlt, if_pos (by simp; omega), Int.toNat_natCast, fill_step l 0 i hlt, wn (by omega)]
  exact ih k (i + 1) (by omega) (by omega) (by omega)
theorem toints_is (l : List Int) (hl : l.length ≤ 1048576) (k : Nat) (hk : l.length < k) : laws_toIntS.f k l = some l := by
 unfold laws_toIntS.f
 rw [if_pos (by omega), if_pos (by omega), Int.toNat_natCast]
 have h := toints_loop l hl l.length k 0 (by omega) (by omega) hk
 simpa using h
theorem torows_loop (l : List (List Int)) (hl : l.length ≤ 1048576) (hf : ∀ f, f ∈ l → f.length ≤ 1048576) (d : Nat) : ∀ (k i : Nat), l.length - i = d → i ≤ l.length → fcost (l.drop i) < k →
  laws_toIntSS.l0 k l (l.take i ++ List.replicate (l.length - i) []) (i : Int) = some l := by
 induction d with
 | zero =>
  intro k i hd hi hk
  obtain ⟨k, rfl⟩ : ∃ m, k = m + 1 := ⟨k - 1, by omega⟩
  simp only [laws_toIntSS.l0]
  rw [if_neg (by omega)]
  have : i = l.length := by omega
  subst this
  simp
 | succ d ih =>
  intro k i hd hi hk
  obtain ⟨k, rfl⟩ : ∃ m, k = m + 1 := ⟨k - 1, by omega⟩
  have hlt : i < l.length := by omega
  rw [List.drop_eq_getElem_cons hlt] at hk
  have hk2 : l[i].length + 2 + fcost (l.drop (i + 1)) < k + 1 := hk
  simp only [laws_toIntSS.l0]
  rw [if_pos (by omega), if_pos (by omega), rd5_at l i hlt, toints_is l[i] (hf _ (List.getElem_mem hlt)) k (by omega), Option.bind_some, if_pos (by simp; omega), Int.toNat_natCast, fill_step l [] i hlt, wn (by omega)]
  exact ih k (i + 1) (by omega) (by omega) (by omega)
theorem torows_is (l : List (List Int)) (hl : l.length ≤ 1048576) (hf : ∀ f, f ∈ l → f.length ≤ 1048576) (k : Nat) (hk : fcost l < k) : laws_toIntSS.f k l = some l := by
 unfold laws_toIntSS.f
 rw [if_pos (by omega), if_pos (by omega), Int.toNat_natCast]
 have h := torows_loop l hl hf l.length k 0 (by omega) (by omega) (by simpa using hk)
 simpa using h
theorem eqset_loop (l : List S84) (hl : l.length ≤ 1048576) (d : Nat) : ∀ (k i : Nat), l.length - i = d → i ≤ l.length → d < k → laws_eqSetS.l0 k l l (i : Int) = some true := by
 induction d with
 | zero =>
  intro k i hd hi hk
  obtain ⟨k, rfl⟩ : ∃ m, k = m + 1 := ⟨k - 1, by omega⟩
  simp only [laws_eqSetS.l0]
  rw [if_neg (by omega)]
 | succ d ih =>
  intro k i hd hi hk
  obtain ⟨k, rfl⟩ : ∃ m, k = m + 1 := ⟨k - 1, by omega⟩
  have e : ∀ a b : Int, laws_eqSet.f a b a b = some true := fun a b => by simp [laws_eqSet.f]
  simp only [laws_eqSetS.l0]
  rw [if_pos (by omega), if_pos (by omega), if_pos (by omega), e, Option.bind_some, if_pos rfl, wn (by omega)]
  exact ih k (i + 1) (by omega) (by omega) (by omega)
theorem eqset_is (l : List S84) (hl : l.length ≤ 1048576) (k : Nat) (hk : l.length < k) : laws_eqSetS.f k l l = some true := by
 unfold laws_eqSetS.f
 rw [if_pos rfl]
 exact eqset_loop l hl l.length k 0 (by omega) (by omega) hk
theorem eqm_loop (l : List S86) (hl : l.length ≤ 1048576) (d : Nat) : ∀ (k i : Nat), l.length - i = d → i ≤ l.length → d < k → laws_eqMomentS.l0 k l l (i : Int) = some true := by
 induction d with
 | zero =>
  intro k i hd hi hk
  obtain ⟨k, rfl⟩ : ∃ m, k = m + 1 := ⟨k - 1, by omega⟩
  simp only [laws_eqMomentS.l0]
  rw [if_neg (by omega)]
 | succ d ih =>
  intro k i hd hi hk
  obtain ⟨k, rfl⟩ : ∃ m, k = m + 1 := ⟨k - 1, by omega⟩
  have e : ∀ a b c d e f g h i j : Int, laws_eqMoment.f a b c d e f g h i j a b c d e f g h i j = some true := fun a b c d e f g h i j => by simp [laws_eqMoment.f, laws_eqBox.f, laws_eqTrain.f]
  simp only [laws_eqMomentS.l0]
  rw [if_pos (by omega), if_pos (by omega), if_pos (by omega), e, Option.bind_some, if_pos rfl, wn (by omega)]
  exact ih k (i + 1) (by omega) (by omega) (by omega)
theorem eqm_is (l : List S86) (hl : l.length ≤ 1048576) (k : Nat) (hk : l.length < k) : laws_eqMomentS.f k l l = some true := by
 unfold laws_eqMomentS.f
 rw [if_pos rfl]
 exact eqm_loop l hl l.length k 0 (by omega) (by omega) hk
theorem eqints_loop (l : List Int) (hl : l.length ≤ 1048576) (d : Nat) : ∀ (k i : Nat), l.length - i = d → i ≤ l.length → d < k → laws_eqIntS.l0 k l l (i : Int) = some true := by
 induction d with
 | zero =>
  intro k i hd hi hk
  obtain ⟨k, rfl⟩ : ∃ m, k = m + 1 := ⟨k - 1, by omega⟩
  simp only [laws_eqIntS.l0]
  rw [if_neg (by omega)]
 | succ d ih =>
  intro k i hd hi hk
  obtain ⟨k, rfl⟩ : ∃ m, k = m + 1 := ⟨k - 1, by omega⟩
  simp only [laws_eqIntS.l0]
  rw [if_pos (by omega), if_pos (by omega), if_pos (by omega), if_pos trivial, wn (by omega)]
  exact ih k (i + 1) (by omega) (by omega) (by omega)
theorem eqints_is (l : List Int) (hl : l.length ≤ 1048576) (k : Nat) (hk : l.length < k) : laws_eqIntS.f k l l = some true := by
 unfold laws_eqIntS.f
 rw [if_pos rfl]
 exact eqints_loop l hl l.length k 0 (by omega) (by omega) hk
theorem eqrows_loop (l : List (List Int)) (hl : l.length ≤ 1048576) (hf : ∀ f, f ∈ l → f.length ≤ 1048576) (d : Nat) : ∀ (k i : Nat), l.length - i = d → i ≤ l.length → fcost (l.drop i) < k → laws_eqIntSS.l0 k l l (i : Int) = some true := by
 induction d with
 | zero =>
  intro k i hd hi hk
  obtain ⟨k, rfl⟩ : ∃ m, k = m + 1 := ⟨k - 1, by omega⟩
  simp only [laws_eqIntSS.l0]
  rw [if_neg (by omega)]
 | succ d ih =>
  intro k i hd hi hk
  obtain ⟨k, rfl⟩ : ∃ m, k = m + 1 := ⟨k - 1, by omega⟩
  have hlt : i < l.length := by omega
  rw [List.drop_eq_getElem_cons hlt] at hk
  have hk2 : l[i].length + 2 + fcost (l.drop (i + 1)) < k + 1 := hk
  simp only [laws_eqIntSS.l0]
  rw [if_pos (by omega), if_pos (by omega), if_pos (by omega), rd5_at l i hlt, eqints_is l[i] (hf _ (List.getElem_mem hlt)) k (by omega), Option.bind_some, if_pos rfl, wn (by omega)]
  exact ih k (i + 1) (by omega) (by omega) (by omega)
theorem eqrows_is (l : List (List Int)) (hl : l.length ≤ 1048576) (hf : ∀ f, f ∈ l → f.length ≤ 1048576) (k : Nat) (hk : fcost l < k) : laws_eqIntSS.f k l l = some true := by
 unfold laws_eqIntSS.f
 rw [if_pos rfl]
 exact eqrows_loop l hl hf l.length k 0 (by omega) (by omega) (by simpa using hk)
theorem markset_loop (d : Nat) : ∀ (k i : Nat) (L : List S84) (m : Int), L.length - i = d → i ≤ L.length → L.length ≤ 1048576 → d < k → 0 ≤ m → m ≤ 1000000000000 - 2 * d →
  ∃ L', laws_markSetS.l0 k L m (i : Int) = some (m + 2 * (d : Int), L') := by
 induction d with
 | zero =>
  intro k i L m hd hi hl hk h0 h1
  obtain ⟨k, rfl⟩ : ∃ q, k = q + 1 := ⟨k - 1, by omega⟩
  simp only [laws_markSetS.l0]
  rw [if_neg (by omega)]
  exact ⟨L, by simp⟩
 | succ d ih =>
  intro k i L m hd hi hl hk h0 h1
  obtain ⟨k, rfl⟩ : ∃ q, k = q + 1 := ⟨k - 1, by omega⟩
  simp only [laws_markSetS.l0, Option.bind_some]
  rw [if_pos (by omega), if_pos (by omega), wn (by omega), w64 (x := m + 1) (by omega) (by omega), w64 (x := m + 1 + 1) (by omega) (by omega)]
  generalize hL : (List.set _ _ _ : List S84) = L2
  have hlen : L2.length = L.length := by rw [← hL]; simp
  obtain ⟨L', h⟩ := ih k (i + 1) L2 (m + 1 + 1) (by omega) (by omega) (by omega) (by omega) (by omega) (by omega)
  exact ⟨L', by rw [h]; congr 2; omega⟩
theorem markset_is (l : List S84) (hl : l.length ≤ 1048576) (k : Nat) (hk : l.length < k) : ∃ L', laws_markSetS.f k l 1 = some (1 + 2 * (l.length : Int), L') :=
 markset_loop l.length k 0 l 1 (by omega) (by omega) hl hk (by decide) (by omega)
theorem markints_loop (d : Nat) : ∀ (k i : Nat) (L : List Int) (m : Int), L.length - i = d → i ≤ L.length → L.length ≤ 1048576 → d < k → 0 ≤ m → m ≤ 1000000000000 - d →
  ∃ L', laws_markIntS.l0 k L m (i : Int) = some (m + (d : Int), L') := by
 induction d with
 | zero =>
  intro k i L m hd hi hl hk h0 h1
  obtain ⟨k, rfl⟩ : ∃ q, k = q + 1 := ⟨k - 1, by omega⟩
  simp only [laws_markIntS.l0]
  rw [if_neg (by omega)]
  exact ⟨L, by simp⟩
 | succ d ih =>
  intro k i L m hd hi hl hk h0 h1
  obtain ⟨k, rfl⟩ : ∃ q, k = q + 1 := ⟨k - 1, by omega⟩
  simp only [laws_markIntS.l0]
  rw [if_pos (by omega), if_pos (by omega), wn (by omega), w64 (x := m + 1) (by omega) (by omega)]
  obtain ⟨L', h⟩ := ih k (i + 1) (L.set (i : Int).toNat m) (m + 1) (by simp; omega) (by simp; omega) (by simpa using hl) (by omega) (by omega) (by omega)
  exact ⟨L', by rw [h]; congr 2; omega⟩
theorem markints_is (l : List Int) (hl : l.length ≤ 1048576) (m : Int) (h0 : 0 ≤ m) (h1 : m ≤ 100000000000) (k : Nat) (hk : l.length < k) : ∃ L', laws_markIntS.f k l m = some (m + (l.length : Int), L') :=
 markints_loop l.length k 0 l m (by omega) (by omega) hl hk h0 (by omega)
theorem markrows_g (k : Nat) : ∀ (l : List (List Int)) (m : Int), (∀ f, f ∈ l → f.length ≤ 1048576 ∧ f.length < k) → 0 ≤ m → m + (fsum l : Int) ≤ 100000000000 → markIntSSg k l m = some (m + (fsum l : Int))
 | [], m, _, _, _ => by simp [markIntSSg, fsum]
 | f :: l, m, hf, h0, h1 => by
  have hs : fsum (f :: l) = f.length + fsum l := rfl
  rw [hs] at h1 ⊢
  obtain ⟨L', h⟩ := markints_is f (hf f (by simp)).1 m h0 (by omega) k (hf f (by simp)).2
  show (laws_markIntS.f k f m).bind (fun t => markIntSSg k l t.1) = _
  rw [h, Option.bind_some, markrows_g k l (m + (f.length : Int)) (fun g hg => hf g (by simp [hg])) (by omega) (by omega)]
  congr 1
  omega
theorem markrows_is (l : List (List Int)) (hl : l.length ≤ 1048576) (hs : fsum l ≤ 1048576) (m : Int) (h0 : 0 ≤ m) (h1 : m ≤ 10000000) (k : Nat) (hk : fcost l < k) : laws_markIntSS.f k l m = some (m + (fsum l : Int)) := by
 unfold laws_markIntSS.f
 rw [if_pos hl]
 exact markrows_g k l m (fun f hf => ⟨Nat.le_trans (fsum_mem l f hf) hs, Nat.lt_of_le_of_lt (fcost_mem l f hf) hk⟩) h0 (by omega)
theorem markm_is (l : List S86) (hl : l.length ≤ 1048576) (k : Nat) : laws_markMomentS.f k l 1 = some (1 + 10 * (l.length : Int), marks 1 l.length) := by
 unfold laws_markMomentS.f
 rw [if_pos (by omega)]
theorem marks_at : ∀ (n i : Nat) (K : Int), i < n → (marks K n).getD i z86 = mk86 (K + 10 * (i : Int))
 | 0, i, K, h => by omega
 | n + 1, 0, K, h => by
  show mk86 K = _
  congr 1
  omega
 | n + 1, i + 1, K, h => by
  show (marks (K + 10) n).getD i z86 = _
  rw [marks_at n i (K + 10) (by omega)]
  congr 1
  omega
theorem held_loopm (n : Nat) (hn : n ≤ 1048576) (d : Nat) : ∀ (k i : Nat), n - i = d → i ≤ n → d < k → laws_heldMomentS.l0 k (marks 1 n) (1 + 10 * (i : Int)) (i : Int) = some (1 + 10 * (n : Int)) := by
 induction d with
 | zero =>
  intro k i hd hi hk
  obtain ⟨k, rfl⟩ : ∃ m, k = m + 1 := ⟨k - 1, by omega⟩
  simp only [laws_heldMomentS.l0, marks_len]
  rw [if_neg (by omega)]
  congr 1
  omega
 | succ d ih =>
  intro k i hd hi hk
  obtain ⟨k, rfl⟩ : ∃ m, k = m + 1 := ⟨k - 1, by omega⟩
  have hr : rd_T86 (marks 1 n) (i : Int) = mk86 (1 + 10 * (i : Int)) := by
   unfold rd_T86
   rw [Int.toNat_natCast]
   exact marks_at n i 1 (by omega)
  obtain ⟨K, hK⟩ : ∃ K, K = 1 + 10 * (i : Int) := ⟨_, rfl⟩
  have hb : 0 ≤ K ∧ K ≤ 100000000 := by omega
  have hi2 := ih k (i + 1) (by omega) (by omega) (by omega)
  rw [show (1 : Int) + 10 * ((i + 1 : Nat) : Int) = K + 1 + 1 + 1 + 1 + 1 + 1 + 1 + 1 + 1 + 1 by omega] at hi2
  rw [← hK] at hr ⊢
  simp only [laws_heldMomentS.l0, marks_len, hr, mk86]
  rw [w64 (x := K + 1) (by omega) (by omega), w64 (x := K + 1 + 1) (by omega) (by omega), w64 (x := K + 1 + 1 + 1) (by omega) (by omega), w64 (x := K + 1 + 1 + 1 + 1) (by omega) (by omega), w64 (x := K + 1 + 1 + 1 + 1 + 1) (by omega) (by omega),
   w64 (x := K + 1 + 1 + 1 + 1 + 1 + 1) (by omega) (by omega), w64 (x := K + 1 + 1 + 1 + 1 + 1 + 1 + 1) (by omega) (by omega), w64 (x := K + 1 + 1 + 1 + 1 + 1 + 1 + 1 + 1) (by omega) (by omega), w64 (x := K + 1 + 1 + 1 + 1 + 1 + 1 + 1 + 1 + 1) (by omega) (by omega), w64 (x := K + 1 + 1 + 1 + 1 + 1 + 1 + 1 + 1 + 1 + 1) (by omega) (by omega), wn (by omega)]
  rw [if_pos (by omega), if_pos (by omega), if_pos trivial, if_pos (by omega), if_pos (by omega), if_pos (by omega), if_pos (by omega), if_pos (by omega), if_pos (by omega), if_pos (by omega), if_pos (by omega), if_pos (by omega)]
  exact hi2
theorem heldm_is (n : Nat) (hn : n ≤ 1048576) (k : Nat) (hk : n < k) : laws_heldMomentS.f k (marks 1 n) 1 = some (1 + 10 * (n : Int)) := by
 have h := held_loopm n hn n k 0 (by omega) (by omega) hk
 simpa [laws_heldMomentS.f] using h
theorem runLoop_len (a0 a1 a2 : Int) (fa : List (List Int)) (ticks : Int) : ∀ (k : Nat) (now : Int) (b : S29) (t : S48) (rB rT : List (List S133)) (n : Int) (sets : List S84) (out : List S86), (runLoop a0 a1 a2 fa ticks k now b t rB rT n sets out).length ≤ out.length + k
 | 0, _, _, _, _, _, _, _, out => by simp [runLoop]
 | k + 1, now, b, t, rB, rT, n, sets, out => by
  unfold runLoop
  simp only
  split
  ·split
   ·refine Nat.le_trans (runLoop_len a0 a1 a2 fa ticks k _ _ _ _ _ _ _ _) ?_
    simp
    omega
   ·simp
  ·simp
theorem runAll_len (a0 a1 a2 : Int) (l1 : List S84) (l2 : List (List Int)) (a3 : Int) : (runAll a0 a1 a2 l1 l2 a3).length ≤ 2000 := by
 unfold runAll
 by_cases hg : goodB a0 a1 a2 l1 l2 a3 = true
 ·rw [if_pos hg]
  have h1 := runLoop_len a0 a1 a2 l2 a3 a3.toNat 1 z29 z48 (List.replicate (a3 + 1).toNat []) (List.replicate (a3 + 1).toNat []) 0 l1 []
  have h2 := (good_of hg).t1
  have h3 := (good_of hg).t0
  simp only [List.length_nil, Nat.zero_add] at h1
  omega
 ·rw [if_neg hg]
  simp
theorem FnExactRun (a0_0 a0_1 a0_2 : Int) (l1 : List S127) (l2 : List (List Int)) (a3 : Int) (_ : (Lit.int .i64 a0_0).wf = true) (_ : (Lit.int .i64 a0_1).wf = true) (_ : (Lit.int .i64 a0_2).wf = true) (hl1 : l1.length ≤ 9223372036854775807) (_ : (∀ x ∈ l1, (Lit.int .i64 x.f0).wf = true ∧ (Lit.int .i64 x.f1).wf = true)) (hl2 : l2.length ≤ 9223372036854775807) (hr2 : (∀ r ∈ l2, r.length ≤ 9223372036854775807 ∧ ∀ x ∈ r, (Lit.int .i64 x).wf = true)) (_ : (Lit.int .i64 a3).wf = true) : ∃ k, laws_FnExactRun.f k a0_0 a0_1 a0_2 l1 l2 a3 = some true := by
 obtain ⟨m, hm⟩ : ∃ m, m = l1.length + fcost l2 + 3000 := ⟨_, rfl⟩
 have hfl := fcost_len l2
 refine ⟨m + 1, ?_⟩
 simp only [laws_FnExactRun.f, laws_szSetS.f]
 rw [w64 (x := 1048576 - (l1.length : Int)) (by omega) (by omega)]
 by_cases hn1 : 1048576 - (l1.length : Int) < 0
 ·rw [if_pos hn1, Option.bind_some, if_pos (by omega)]
 ·rw [if_neg hn1, Option.bind_some, if_neg hn1]
  obtain ⟨t, h1, h2⟩ := sz_is l2 hl2 (fun f hf => (hr2 f hf).1) (1048576 - (l1.length : Int)) (by omega) (by omega) (m + 1) (by omega)
  rw [h1, Option.bind_some]
  by_cases ht : t < 0
  ·rw [if_pos ht]
  ·rw [if_neg ht]
   obtain ⟨hb2, hs2⟩ := h2 (by omega)
   have hb1 : l1.length ≤ 1048576 := by omega
   have hf2 : ∀ f, f ∈ l2 → f.length ≤ 1048576 := fun f hf => Nat.le_trans (fsum_mem l2 f hf) hs2
   obtain ⟨L, hL⟩ : ∃ L, L = l1.map conv84 := ⟨_, rfl⟩
   have hLl : L.length = l1.length := by rw [hL]; simp
   obtain ⟨M, hM⟩ : ∃ M, M = runAll a0_0 a0_1 a0_2 L l2 a3 := ⟨_, rfl⟩
   have hMl : M.length ≤ 2000 := by rw [hM]; exact runAll_len _ _ _ _ _ _
   have hz : sized L l2 = true := sized_to (by omega) hb2 hf2
   have es : spec_Run.f a0_0 a0_1 a0_2 L l2 a3 = some M := by unfold spec_Run.f; rw [if_pos hz, hM]
   have ei : impl_RunA.f a0_0 a0_1 a0_2 L l2 a3 = some M := by unfold impl_RunA.f; rw [if_pos hz, hM]
   have t1 := toset_is l1 hb1 (m + 1) (by omega)
   have t2 := torows_is l2 hb2 hf2 (m + 1) (by omega)
   have t1' := toset_is l1 hb1 m (by omega)
   have t2' := torows_is l2 hb2 hf2 m (by omega)
   rw [← hL] at t1 t1'
   have q1 := eqm_is M (by omega) (m + 1) (by omega)
   have q1' := eqm_is M (by omega) m (by omega)
   have q2 := eqset_is L (by omega) (m + 1) (by omega)
   have q3 := eqrows_is l2 hb2 hf2 (m + 1) (by omega)
   obtain ⟨L', g1⟩ := markset_is L (by omega) (m + 1) (by omega)
   have g2 := markrows_is l2 hb2 hs2 (1 + 2 * (L.length : Int)) (by omega) (by omega) (m + 1) (by omega)
   have g3 := markm_is M (by omega) m
   have g4 := heldm_is M.length (by omega) m (by omega)
   have p1 : ¬ (1 + 2 * (L.length : Int) + (fsum l2 : Int) < 0) := by omega
   have p2 : ¬ (1 + 10 * (M.length : Int) < 0) := by omega
   simp only [laws_toRules.f, Option.bind_some, t1, t2, es, ei, q1, q2, q3, g1, g2, if_true, p1, if_false, Bool.not_true, laws_FnExactRun.j0, Bool.false_eq_true, g3, g4, p2, t1', t2', q1']
end Go.Proofs.Ytndffnacbfdnoaa.Pure
