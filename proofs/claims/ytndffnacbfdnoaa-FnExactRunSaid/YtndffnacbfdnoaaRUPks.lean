-- Lines of Pks that this claim uses.
import Derived.Test.YtndffnacbfdnoaaRURunI
set_option linter.unusedSimpArgs false
set_option linter.unusedVariables false
namespace Go.Proofs.Ytndffnacbfdnoaa.PAll
open Go.RowKit Go.Proofs.YtndffnacbfdnoaaW.PrintWords Go.Proofs.YtndffnacbfdnoaaW.PrintLast Go.Proofs.YtndffnacbfdnoaaW.PrintMore Go.Proofs.Ytndffnacbfdnoaa.Plain Go.Proofs.Ytndffnacbfdnoaa.Pure
def dueL (m : Int) : List S146 → List S60
  | [] => []
  | x :: l => if x.f1 = m then x.f0 :: dueL m l else dueL m l
theorem dueL_append (m : Int) : ∀ a b : List S146, dueL m (a ++ b) = dueL m a ++ dueL m b
  | [], b => rfl
  | x :: a, b => by
    show (if x.f1 = m then x.f0 :: dueL m (a ++ b) else dueL m (a ++ b)) = (if x.f1 = m then x.f0 :: dueL m a else dueL m a) ++ dueL m b
    rw [dueL_append m a b]
    split <;> simp
theorem dueL_len (m : Int) : ∀ a : List S146, (dueL m a).length ≤ a.length
  | [] => Nat.le_refl _
  | x :: a => by
    have h := dueL_len m a
    show (if x.f1 = m then x.f0 :: dueL m a else dueL m a).length ≤ a.length + 1
    split
    · simp only [List.length_cons]; omega
    · omega
def fly (now : Int) (p : S60) (f : List Int) : List S146 := f.map (fun d => ⟨p, now + d⟩)
def sendD (fa : List (List Int)) (now : Int) (p : S60) (n : Int) (l : List S146) : List S146 := if n < (fa.length : Int) then l ++ fly now p (rd_L5 fa n) else l
def sendsD (fa : List (List Int)) (now : Int) : List S60 → Int → List S146 → List S146
  | [], _, l => l
  | p :: ps, n, l => sendsD fa now ps (n + 1) (sendD fa now p n l)
def Air (lo ticks : Int) (l : List S146) (rows : List (List S133)) : Prop := ∀ m, lo ≤ m → m ≤ ticks → dueL m l = pks (rows.getD m.toNat [])
theorem put_at (rows : List (List S133)) (i m : Nat) (x : S133) (hi : i < rows.length) : pks ((put133 rows i x).getD m []) = pks (rows.getD m []) ++ (if m = i then [x.f0] else []) := by
  unfold put133
  by_cases h : m = i
  · subst h
    simp [pks, List.getD_eq_getElem?_getD, hi]
  · have h' : ¬ i = m := fun e => h e.symm
    simp [pks, List.getD_eq_getElem?_getD, List.getElem?_set, h, h']
theorem air_P (lo now ticks : Int) (p : S60) (n : Int) (h0 : 0 ≤ now) : ∀ (f : List Int) (l : List S146) (rows : List (List S133)), (∀ d, d ∈ f → 1 ≤ d ∧ d ≤ 1000) → (rows.length : Int) = ticks + 1 → 0 ≤ lo → Air lo ticks l rows → Air lo ticks (l ++ fly now p f) (sendP now ticks ⟨p, n⟩ f rows)
  | [], l, rows, _, _, _, h => by simpa [fly, sendP] using h
  | d :: f, l, rows, hf, hr, hlo, h => by
    have hd := hf d (by simp)
    have he : l ++ fly now p (d :: f) = (l ++ [⟨p, now + d⟩]) ++ fly now p f := by simp [fly]
    rw [he]
    unfold sendP
    refine air_P lo now ticks p n h0 f _ _ (fun e he => hf e (by simp [he])) ?_ hlo ?_
    · split
      · simpa [put133] using hr
      · exact hr
    · intro m hm1 hm2
      rw [dueL_append, h m hm1 hm2]
      by_cases hle : now + d ≤ ticks
      · rw [if_pos hle, put_at _ _ _ _ (by omega)]
        by_cases hq : now + d = m
        · have : m.toNat = (now + d).toNat := by omega
          rw [if_pos this]
          simp [dueL, hq]
        · have : ¬ m.toNat = (now + d).toNat := by omega
          rw [if_neg this]
          simp [dueL, hq]
      · rw [if_neg hle]
        have : ¬ now + d = m := by omega
        simp [dueL, this]
theorem fate_of {fa : List (List Int)} (hfa : ∀ f, f ∈ fa → f.length ≤ 10 ∧ ∀ d, d ∈ f → 1 ≤ d ∧ d ≤ 1000) {n : Int} (h0 : 0 ≤ n) (h1 : n < (fa.length : Int)) : (rd_L5 fa n).length ≤ 10 ∧ ∀ d, d ∈ rd_L5 fa n → 1 ≤ d ∧ d ≤ 1000 := by
  have h3 : n.toNat < fa.length := by omega
  rw [show rd_L5 fa n = fa[n.toNat] by simp [rd_L5, List.getD_eq_getElem?_getD, h3]]
  exact hfa _ (List.getElem_mem h3)
theorem air_L (fa : List (List Int)) (hfa : ∀ f, f ∈ fa → f.length ≤ 10 ∧ ∀ d, d ∈ f → 1 ≤ d ∧ d ≤ 1000) (lo now ticks : Int) (h0 : 0 ≤ now) (hlo : 0 ≤ lo) : ∀ (ps : List S60) (n : Int) (l : List S146) (rows : List (List S133)), 0 ≤ n → (rows.length : Int) = ticks + 1 → Air lo ticks l rows → Air lo ticks (sendsD fa now ps n l) (sendL fa now ticks ps n rows).1
  | [], _, _, _, _, _, h => h
  | p :: ps, n, l, rows, hn, hr, h => by
    unfold sendsD sendL sendD
    by_cases hf : n < (fa.length : Int)
    · rw [if_pos hf, if_pos hf]
      exact air_L fa hfa lo now ticks h0 hlo ps (n + 1) _ _ (by omega) (by rw [sendP_len]; exact hr) (air_P lo now ticks p n h0 _ l rows (fate_of hfa hn hf).2 hr hlo h)
    · rw [if_neg hf, if_neg hf]
      exact air_L fa hfa lo now ticks h0 hlo ps (n + 1) l rows (by omega) hr h
theorem sendD_len {fa : List (List Int)} (hfa : ∀ f, f ∈ fa → f.length ≤ 10 ∧ ∀ d, d ∈ f → 1 ≤ d ∧ d ≤ 1000) (now : Int) (p : S60) {n : Int} (hn : 0 ≤ n) {l : List S146} (hl : l.length ≤ 10 * min n.toNat fa.length) : (sendD fa now p n l).length ≤ 10 * min (n + 1).toNat fa.length := by
  unfold sendD
  split
  · rename_i h
    have := (fate_of hfa hn h).1
    simp only [List.length_append, fly, List.length_map]
    omega
  · omega
def atT (now : Int) : List S84 → List Int
  | [] => []
  | s :: r => if s.f0 = now then s.f1 :: atT now r else atT now r
theorem atT_append (now : Int) : ∀ a b : List S84, atT now (a ++ b) = atT now a ++ atT now b
  | [], b => rfl
  | x :: a, b => by
    show (if x.f0 = now then x.f1 :: atT now (a ++ b) else atT now (a ++ b)) = (if x.f0 = now then x.f1 :: atT now a else atT now a) ++ atT now b
    rw [atT_append now a b]
    split <;> simp
theorem atT_none (now : Int) : ∀ a : List S84, (∀ s, s ∈ a → s.f0 ≠ now) → atT now a = []
  | [], _ => rfl
  | x :: a, h => by
    show (if x.f0 = now then x.f1 :: atT now a else atT now a) = []
    rw [if_neg (h x (by simp))]
    exact atT_none now a (fun s hs => h s (by simp [hs]))
theorem rising_ge (ticks : Int) : ∀ (l : List S84) (last : Int), rising ticks last l → ∀ s, s ∈ l → last ≤ s.f0
  | [], _, _, s, hs => by simp at hs
  | x :: l, last, h, s, hs => by
    rcases List.mem_cons.1 hs with rfl | hs
    · exact h.1
    · have := rising_ge ticks l x.f0 h.2.2 s hs
      have := h.1
      omega
theorem vals_at (ticks now : Int) : ∀ (l : List S84), rising ticks now l → (vals now l).1 = atT now l ∧ rising ticks (now + 1) (vals now l).2 ∧ ∃ t, l = t ++ (vals now l).2 ∧ ∀ s, s ∈ t → s.f0 = now
  | [], _ => ⟨rfl, trivial, [], rfl, fun s hs => by simp at hs⟩
  | x :: l, h => by
    by_cases hx : x.f0 = now
    · have hr : rising ticks now l := hx ▸ h.2.2
      obtain ⟨h1, h2, t, h3, h4⟩ := vals_at ticks now l hr
      have e : vals now (x :: l) = (x.f1 :: (vals now l).1, (vals now l).2) := by
        conv => lhs; unfold vals
        rw [if_pos hx]
      rw [e]
      refine ⟨?_, h2, x :: t, ?_, ?_⟩
      · show _ = (if x.f0 = now then x.f1 :: atT now l else atT now l)
        rw [if_pos hx, h1]
      · show x :: l = x :: (t ++ (vals now l).2)
        rw [← h3]
      · intro s hs
        rcases List.mem_cons.1 hs with rfl | hs
        · exact hx
        · exact h4 s hs
    · have e : vals now (x :: l) = ([], x :: l) := by
        unfold vals
        rw [if_neg hx]
      have hx1 : now + 1 ≤ x.f0 := by have := h.1; omega
      rw [e]
      refine ⟨?_, ⟨hx1, h.2.1, h.2.2⟩, [], rfl, fun s hs => by simp at hs⟩
      symm
      exact atT_none now _ (fun s hs => by
        rcases List.mem_cons.1 hs with rfl | hs
        · exact hx
        · have := rising_ge ticks l x.f0 h.2.2 s hs
          omega)
structure SetsAt (l1 : List S84) (ticks now : Int) (sets : List S84) : Prop where
  ex : ∃ t, l1 = t ++ sets ∧ ∀ s, s ∈ t → s.f0 < now
  rise : rising ticks now sets
theorem SetsAt.vals {l1 sets : List S84} {ticks now : Int} (h : SetsAt l1 ticks now sets) : (vals now sets).1 = atT now l1 := by
  obtain ⟨t, h1, h2⟩ := h.ex
  rw [h1, atT_append, atT_none now t (fun s hs => by have := h2 s hs; omega), List.nil_append]
  exact (vals_at ticks now sets h.rise).1
theorem SetsAt.next {l1 sets : List S84} {ticks now : Int} (h : SetsAt l1 ticks now sets) : SetsAt l1 ticks (now + 1) (PAll.vals now sets).2 := by
  obtain ⟨t, h1, h2⟩ := h.ex
  obtain ⟨h3, h4, t2, h5, h6⟩ := vals_at ticks now sets h.rise
  refine ⟨⟨t ++ t2, ?_, ?_⟩, h4⟩
  · rw [List.append_assoc, ← h5]; exact h1
  · intro s hs
    rcases List.mem_append.1 hs with hs | hs
    · have := h2 s hs; omega
    · have := h6 s hs; omega
theorem SetsAt.start {l1 : List S84} {ticks : Int} (h : rising ticks 1 l1) : SetsAt l1 ticks 1 l1 := ⟨⟨[], rfl, fun s hs => by simp at hs⟩, h⟩
theorem box_kind {a0 a1 a2 now x2 x3 x4 x5 x6 : Int} {b : S29} {vs : List Int} {ps xs : List S60} {x1 : Bool} (h : (x1, x2, x3, x4, x5, x6, xs) = boxF a0 a1 a2 now b vs ps) : ∀ p, p ∈ xs → p.f0 = 1 := by
  have h2 : xs = (boxF a0 a1 a2 now b vs ps).2.2.2.2.2.2 := by rw [← h]
  rw [h2]
  unfold boxF
  split
  · unfold boxRes bEnd
    split
    · intro p hp
      rw [List.mem_singleton.1 hp]
    · intro p hp
      simp at hp
  · intro p hp
    simp at hp
theorem tfold_kind (now age : Int) : ∀ (l : List S60) (c : TSt), (∀ p, p ∈ c.sent → p.f0 = 2) → ∀ p, p ∈ (l.foldl (tStep now age) c).sent → p.f0 = 2
  | [], c, h => h
  | q :: l, c, h => by
    rw [List.foldl_cons]
    refine tfold_kind now age l _ ?_
    unfold tStep
    split
    · intro p hp
      rcases List.mem_append.1 hp with hp | hp
      · exact h p hp
      · rw [List.mem_singleton.1 hp]
    · exact h
theorem train_kind {a0 a1 a2 now y2 y3 y4 y6 : Int} {y1 : Bool} {t : S48} {ps ys : List S60} (h : (y1, y2, y3, y4, ys, y6) = trainF a0 a1 a2 now t ps) : ∀ p, p ∈ ys → p.f0 = 2 := by
  have h2 : ys = (trainF a0 a1 a2 now t ps).2.2.2.2.1 := by rw [← h]
  rw [h2]
  unfold trainF
  split
  · exact tfold_kind now a2 ps _ (fun p hp => by simp at hp)
  · intro p hp
    simp at hp
theorem spec_box_is (a0 a1 a2 now : Int) (b : S29) (vs : List Int) (ps : List S60) (hv : vs.length ≤ 1048576) (hp : ps.length ≤ 1048576) (k : Nat) (hk : 2 * ps.length + vs.length + 20 < k) : spec_BoxTick.f k a0 a1 a2 now b.f0 b.f1 b.f2 b.f3 b.f4 vs ps = some (boxF a0 a1 a2 now b vs ps) := by
  obtain ⟨R, h1, h2, -⟩ := box_same a0 a1 a2 now b.f0 b.f1 b.f2 b.f3 b.f4 vs hv ps hp k hk
  rw [h1, ← h2, box_is a0 a1 a2 now b vs ps hv hp k (by omega)]
theorem spec_train_is (a0 a1 a2 now : Int) (t : S48) (ps : List S60) (hp : ps.length ≤ 1048576) (k : Nat) (hk : ps.length + 20 < k) : spec_TrainTick.f k a0 a1 a2 now t.f0 t.f1 t.f2 ps = some (trainF a0 a1 a2 now t ps) := by
  obtain ⟨R, h1, h2, -⟩ := train_same a0 a1 a2 now t.f0 t.f1 t.f2 ps hp k (by omega)
  rw [h1, ← h2, train_is a0 a1 a2 now t ps hp k hk]
end Go.Proofs.Ytndffnacbfdnoaa.PAll
