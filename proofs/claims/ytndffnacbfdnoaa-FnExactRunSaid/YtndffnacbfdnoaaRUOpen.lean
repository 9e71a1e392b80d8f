-- Lines of Open that this claim uses.
import Derived.Test.YtndffnacbfdnoaaRUW
import Derived.Deep.Slices
import Derived.Deep.Fields
import Derived.Deep.Matrix
import Derived.ChangeSame
import Derived.Lib.SmallJoins
namespace Go.Proofs.Ytndffnacbfdnoaa.Open
open Go.ChangeShapes Go.WideShapes Go.Deep Go.RowKit Go.Proofs.YtndffnacbfdnoaaW.PrintWords
section
variable {H : Type} {enc : TypeId × Value → H} {P : Program} {w : World} {base : Nat} {spare : Nat → Bool} {held : Bool}
theorem fields_ints {n m : Nat} {fs : Array Field} {cs : List Value} {ys : List (DataW H × List MemPlace)}
    (hi : ∀ (j : Nat) (f : Field), fs[j]? = some f → P.underlying f.type = some (.int .i64)) (hn : cs.length = fs.size) (hm : m = fs.size)
    (hf : ∀ (j : Nat) (f : Field), fs[j]? = some f → ∃ v y, cs[j]? = some v ∧ ys[j]? = some y ∧ DataW.trod enc P w base spare held n f.type [v] = some y) :
    ∃ xs : List Int, xs.length = m ∧ cs = xs.map (Value.int .i64) ∧ ∀ x ∈ xs, (Lit.int .i64 x).wf = true := by
  subst hm
  have each : ∀ (j : Nat), j < fs.size → ∃ x : Int, cs[j]? = some (.int .i64 x) ∧ (Lit.int .i64 x).wf = true := by
    intro j hj
    obtain ⟨v, y, hv, _, ht⟩ := hf j fs[j] (Array.getElem?_eq_getElem hj)
    obtain ⟨x, hx, _, hw⟩ := DataW.trod_int (hi j _ (Array.getElem?_eq_getElem hj)) ht
    injection hx with hx
    exact ⟨x, by rw [hv, hx], hw⟩
  refine ⟨cs.map fun v => match v with | .int _ x => x | _ => 0, by simp [hn], ?_, ?_⟩
  · refine List.ext_getElem? fun j => ?_
    by_cases hj : j < fs.size
    · obtain ⟨x, hx, _⟩ := each j hj
      simp [hx]
    · rw [List.getElem?_eq_none (by omega), List.getElem?_eq_none (by simp; omega)]
  · intro x hx
    rw [List.mem_map] at hx
    obtain ⟨v, hv, rfl⟩ := hx
    obtain ⟨j, hj, rfl⟩ := List.getElem_of_mem hv
    obtain ⟨z, hz, hw⟩ := each j (by omega)
    rw [List.getElem?_eq_getElem hj] at hz
    injection hz with hz
    rw [hz]
    exact hw
theorem drop_one {cs : List Value} {j : Nat} (h : j < cs.length) : (cs.drop j).take 1 = [cs[j]] := by
  rw [List.drop_eq_getElem_cons h]; rfl
theorem agg_i64 {r : Reach} {b0 m : Nat} {t : TypeId} {fs : Array Field} {v : Value} {d : DataW H} {p : List MemPlace} (hs : P.underlying t = some (.struct fs)) (hone : oneCellFields P fs = true) (hC : P.cellsOf t = m) (hm : m = fs.size)
    (hi : ∀ (j : Nat) (f : Field), fs[j]? = some f → P.underlying f.type = some (.int .i64)) (hv : Value.okWide P w r b0 t v) (h : DataW.Trod enc P w base spare held t v d p) :
    ∃ xs : List Int, xs.length = m ∧ v = .agg (xs.map (Value.int .i64)).toArray ∧ ∀ x ∈ xs, (Lit.int .i64 x).wf = true := by
  obtain ⟨cs, rfl, hsz⟩ := okWide_struct hs hv
  obtain ⟨fuel, hf⟩ := h
  obtain ⟨ys, n, _, _, _, hlen, hg⟩ := DataW.trod_struct hs hf
  have hl : cs.toList.length = fs.size := by simp; omega
  obtain ⟨xs, hx, he, hw⟩ := fields_ints (cs := cs.toList) (ys := ys) hi hl hm (fun j f hj => by
    have hjl : j < fs.size := (Array.getElem?_eq_some_iff.1 hj).1
    obtain ⟨ho, hk⟩ := hone_of hone j f hj
    have h1 := hg j f hj
    rw [ho, hk] at h1
    have h2 : ((Value.agg cs).cells.toList.drop j).take 1 = [cs.toList[j]'(by omega)] := by
      show (cs.toList.drop j).take 1 = _
      exact drop_one (by omega)
    rw [h2] at h1
    exact ⟨_, ys[j]'(by omega), List.getElem?_eq_getElem (by omega), List.getElem?_eq_getElem (by omega), h1.trans (List.getElem?_eq_getElem (by omega))⟩)
  exact ⟨xs, hx, by rw [← he], hw⟩
theorem rows_i64 {m : Nat} {t e : TypeId} {fs : Array Field} {fuel : Nat} {A : Option Addr} {len cap : Nat} {x : DataW H × List MemPlace} (ht : P.underlying t = some (.slice e)) (he : P.underlying e = some (.struct fs))
    (hone : oneCellFields P fs = true) (hC : P.cellsOf e = m) (hm : m = fs.size) (hi : ∀ (j : Nat) (f : Field), fs[j]? = some f → P.underlying f.type = some (.int .i64))
    (h : DataW.trod enc P w base spare held fuel t [.slice A len cap] = some x) :
    ∃ rows : List (List Int), rows.length = len ∧ len ≤ cap ∧ cap ≤ maxLen ∧ (∀ r ∈ rows, r.length = m ∧ ∀ x ∈ r, (Lit.int .i64 x).wf = true) ∧
      (0 < len → ∃ ad, A = some ad ∧ ∀ (j : Nat) (r : List Int), rows[j]? = some r → ∀ (i : Nat) (x : Int), r[i]? = some x → w.cell? (ad.add (j * m + i)) = some (.int .i64 x)) := by
  rcases open_slice ht h with ⟨hcs, _⟩ | ⟨a, len', cap', mm, n, D, Pl, hcs, _, hl, hm', hmm, _, hx⟩
  · simp at hcs
    obtain ⟨rfl, rfl, rfl⟩ := hcs
    exact ⟨[], rfl, Nat.le_refl _, Nat.zero_le _, by simp, fun h => absurd h (by omega)⟩
  · simp at hcs
    obtain ⟨rfl, rfl, rfl⟩ := hcs
    have hle : len ≤ mm := by rw [hmm]; split <;> omega
    have each : ∀ i, i < len → ∃ r : List Int, r.length = m ∧ (∀ x ∈ r, (Lit.int .i64 x).wf = true) ∧ ∀ (k : Nat) (x : Int), r[k]? = some x → w.cell? (a.add (i * m + k)) = some (.int .i64 x) := by
      intro i hil
      obtain ⟨cs', hc, ht'⟩ := hx i (by omega)
      rw [hC] at hc
      obtain ⟨ys, n', _, _, hlen, hyl, hg⟩ := DataW.trod_struct he ht'
      obtain ⟨_, hcl, hat⟩ := World.cells?_some hc
      have hl2 : cs'.length = fs.size := by omega
      obtain ⟨xs, hx, he2, hw⟩ := fields_ints (cs := cs') (ys := ys) hi hl2 hm (fun j f hj => by
        have hjl : j < fs.size := (Array.getElem?_eq_some_iff.1 hj).1
        obtain ⟨ho, hk⟩ := hone_of hone j f hj
        have h1 := hg j f hj
        rw [ho, hk, drop_one (by omega)] at h1
        exact ⟨_, ys[j]'(by omega), List.getElem?_eq_getElem (by omega), List.getElem?_eq_getElem (by omega), h1.trans (List.getElem?_eq_getElem (by omega))⟩)
      refine ⟨xs, hx, hw, fun k x hk => ?_⟩
      have hkl : k < m := by have := (List.getElem?_eq_some_iff.1 hk).1; omega
      have h3 := hat k (by omega)
      rw [he2, List.getElem?_map, hk] at h3
      rw [← Go.Deep.add_add]
      exact h3
    have pick : ∀ i, ∃ r : List Int, i < len → r.length = m ∧ (∀ x ∈ r, (Lit.int .i64 x).wf = true) ∧ ∀ (k : Nat) (x : Int), r[k]? = some x → w.cell? (a.add (i * m + k)) = some (.int .i64 x) := fun i => by
      by_cases hil : i < len
      · obtain ⟨r, hr⟩ := each i hil
        exact ⟨r, fun _ => hr⟩
      · exact ⟨[], fun h => absurd h hil⟩
    obtain ⟨f, hf⟩ := Classical.axiomOfChoice pick
    refine ⟨(List.range len).map f, by simp, hl, hm', ?_, fun _ => ⟨a, rfl, ?_⟩⟩
    · intro r hr
      obtain ⟨i, hil, rfl⟩ := List.mem_map.1 hr
      obtain ⟨h1, h2, _⟩ := hf i (List.mem_range.1 hil)
      exact ⟨h1, h2⟩
    · intro j r hj i x hix
      rw [List.getElem?_map, Option.map_eq_some_iff] at hj
      obtain ⟨q, hq, rfl⟩ := hj
      obtain ⟨hq1, hq2⟩ := List.getElem?_eq_some_iff.1 hq
      simp at hq2 hq1
      subst hq2
      exact (hf _ hq1).2.2 i x hix
theorem C_two {α : Type} (d : Kd α) (f : Int → Int → α) (g0 g1 : α → Int) (hd : d.sz = 2) (hK : ∀ (w : World) (x y : Int), d.K w (f x y) [.int .i64 x, .int .i64 y]) (hg : ∀ x y, g0 (f x y) = x ∧ g1 (f x y) = y)
    {A : Option Addr} {len cap : Nat} {rows : List (List Int)} (h1 : rows.length = len) (h2 : len ≤ cap) (h3 : cap ≤ maxLen) (h4 : ∀ r ∈ rows, r.length = 2 ∧ ∀ x ∈ r, (Lit.int .i64 x).wf = true)
    (h5 : 0 < len → ∃ ad, A = some ad ∧ ∀ (j : Nat) (r : List Int), rows[j]? = some r → ∀ (i : Nat) (x : Int), r[i]? = some x → w.cell? (ad.add (j * 2 + i)) = some (.int .i64 x)) :
    ∃ l : List α, len = l.length ∧ Kd.C d w A l.length l ∧ l.length ≤ cap ∧ l.length ≤ 9223372036854775807 ∧ ∀ x ∈ l, (Lit.int .i64 (g0 x)).wf = true ∧ (Lit.int .i64 (g1 x)).wf = true := by
  refine ⟨rows.map fun r => f (r.getD 0 0) (r.getD 1 0), by simp [h1], ⟨rfl, by simp [h1]; unfold maxLen at h3; omega, fun hn => ?_⟩, by simp [h1, h2], by simp [h1]; unfold maxLen at h3; omega, ?_⟩
  · obtain ⟨ad, hA, hc⟩ := h5 (by simpa [h1] using hn)
    refine ⟨ad, hA, fun j p hj => ?_⟩
    rw [List.getElem?_map, Option.map_eq_some_iff] at hj
    obtain ⟨r, hr, rfl⟩ := hj
    have hmem : r ∈ rows := List.mem_of_getElem? hr
    obtain ⟨hrl, _⟩ := h4 r hmem
    match r, hrl with
    | [x, y], _ =>
      refine ⟨[.int .i64 x, .int .i64 y], by rw [hd]; rfl, hK w x y, fun i u hu => ?_⟩
      rw [hd]
      match i, hu with
      | 0, hu => simp at hu; subst hu; exact hc j _ hr 0 x rfl
      | 1, hu => simp at hu; subst hu; exact hc j _ hr 1 y rfl
  · intro x hx
    rw [List.mem_map] at hx
    obtain ⟨r, hr, rfl⟩ := hx
    obtain ⟨hrl, hw⟩ := h4 r hr
    match r, hrl with
    | [x, y], _ =>
      obtain ⟨e0, e1⟩ := hg x y
      simp only [List.getD_cons_zero, List.getD_cons_succ, e0, e1]
      exact ⟨hw x (by simp), hw y (by simp)⟩
theorem rows_rows {t e q : TypeId} {fuel : Nat} {A : Option Addr} {len cap : Nat} {x : DataW H × List MemPlace} (ht : P.underlying t = some (.slice e)) (he : P.underlying e = some (.slice q)) (hq : P.underlying q = some (.int .i64))
    (ce : P.cellsOf e = 1) (cq : P.cellsOf q = 1) (h : DataW.trod enc P w base (fun _ => true) held fuel t [.slice A len cap] = some x) :
    ∃ l : List (List Int), len = l.length ∧ Kd.C (Kd.slice q (Kd.int .i64)) w A l.length l ∧ l.length ≤ cap ∧ l.length ≤ 9223372036854775807 ∧ ∀ r ∈ l, r.length ≤ 9223372036854775807 ∧ ∀ x ∈ r, (Lit.int .i64 x).wf = true := by
  rcases open_int_rows ht he hq ce cq h with ⟨hcs, _⟩ | ⟨a, len', cap', A', L, C, Z, hcs, _, hl, hm, _, hr⟩
  · simp at hcs
    obtain ⟨rfl, rfl, rfl⟩ := hcs
    exact ⟨[], rfl, ⟨rfl, by simp, fun h => absurd h (by simp)⟩, by simp, by simp, by simp⟩
  · simp at hcs
    obtain ⟨rfl, rfl, rfl⟩ := hcs
    unfold maxLen at hm hr
    refine ⟨(List.range len).map fun r => (Z r).take (L r), by simp, ⟨rfl, by simp; omega, fun hn => ⟨a, rfl, fun j p hj => ?_⟩⟩, by simp; omega, by simp; omega, ?_⟩
    · rw [List.getElem?_map, Option.map_eq_some_iff] at hj
      obtain ⟨r, hr2, rfl⟩ := hj
      obtain ⟨hq1, hq2⟩ := List.getElem?_eq_some_iff.1 hr2
      simp at hq2 hq1
      subst hq2
      obtain ⟨c1, c2, c3, c4, c5, c6, c7⟩ := hr j (by omega)
      have hlen : ((Z j).take (L j)).length = L j := by simp; omega
      refine ⟨[.slice (A' j) (L j) (C j)], rfl, ⟨A' j, C j, by rw [hlen], by omega, rfl, by omega, fun hp => ?_⟩, fun i u hu => ?_⟩
      · rw [hlen] at hp
        cases hA : A' j with
        | none => have := c6 hA; omega
        | some a' =>
          refine ⟨a', rfl, fun i z hi => ⟨[.int .i64 z], rfl, rfl, fun i' u hu => ?_⟩⟩
          match i', hu with
          | 0, hu =>
            simp at hu
            subst hu
            have hil : i < L j := by have := (List.getElem?_eq_some_iff.1 hi).1; omega
            have h6 := (c7 a' hA).2 i (by omega)
            have h7 : (Z j).getD i 0 = z := by
              rw [List.getElem?_take, if_pos hil] at hi
              rw [List.getD_eq_getElem?_getD, hi]
              rfl
            rw [h7] at h6
            simpa [Kd.int, Kd.scalar] using h6
      · match i, hu with
        | 0, hu =>
          simp at hu
          subst hu
          simpa [Kd.slice] using c1
    · intro r hr2
      obtain ⟨j, hj, rfl⟩ := List.mem_map.1 hr2
      have hj := List.mem_range.1 hj
      obtain ⟨_, c2, c3, c4, c5, _⟩ := hr j (by omega)
      exact ⟨by simp; omega, fun x hx => c5 x (List.mem_of_mem_take hx)⟩
end
end Go.Proofs.Ytndffnacbfdnoaa.Open
