-- Lines of Pkq that this claim uses.
import Derived.Test.YtndffnacbfdnoaaRUPks
import Derived.Test.YtndffnacbfdnoaaRUPAllx20
set_option linter.unusedSimpArgs false
set_option linter.unusedVariables false
namespace Go.Proofs.Ytndffnacbfdnoaa.PAll
open Go.RowKit Go.Proofs.YtndffnacbfdnoaaW.PrintWords Go.Proofs.YtndffnacbfdnoaaW.PrintLast Go.Proofs.YtndffnacbfdnoaaW.PrintMore Go.Proofs.Ytndffnacbfdnoaa.Plain Go.Proofs.Ytndffnacbfdnoaa.Pure
def fateB (f : List Int) : Bool := decide (f.length ≤ 10) && f.all (fun d => decide (1 ≤ d ∧ d ≤ 1000))
theorem l1in_is (a b c : Int) : spec_l1in.f a b c = some (decide (b ≤ a ∧ a ≤ c)) := by
  unfold spec_l1in.f
  by_cases h : b ≤ a <;> simp [h]
theorem srules_is (a b c : Int) : spec_RulesOk.f a b c = some (rulesB a b c) := by
  obtain ⟨r, h1, h2⟩ := rules_same a b c
  rw [h1, ← h2, rules_is]
theorem rd5_at (l : List (List Int)) (i : Nat) (h : i < l.length) : rd_L5 l (i : Int) = l[i] := by simp [rd_L5, List.getD_eq_getElem?_getD, h]
theorem rd84_at (l : List S84) (i : Nat) (h : i < l.length) : rd_T84 l (i : Int) = l[i] := by simp [rd_T84, List.getD_eq_getElem?_getD, h]
theorem rd146_at (l : List S146) (i : Nat) (h : i < l.length) : rd_T146 l (i : Int) = l[i] := by simp [rd_T146, List.getD_eq_getElem?_getD, h]
theorem due_loop (now : Int) (l : List S146) (hl : l.length ≤ 1000000000) (d : Nat) : ∀ (k i : Nat) (out : List S60), l.length - i = d → i ≤ l.length → d < k → out.length ≤ i → spec_l3due.l0 k now out l (l.length : Int) (i : Int) = some (out ++ dueL now (l.drop i)) := by
  induction d with
  | zero =>
    intro k i out hd hi hk ho
    obtain ⟨k, rfl⟩ : ∃ m, k = m + 1 := ⟨k - 1, by omega⟩
    simp only [spec_l3due.l0]
    rw [if_neg (by omega), List.drop_of_length_le (by omega)]
    simp [dueL]
  | succ d ih =>
    intro k i out hd hi hk ho
    obtain ⟨k, rfl⟩ : ∃ m, k = m + 1 := ⟨k - 1, by omega⟩
    have hlt : i < l.length := by omega
    simp only [spec_l3due.l0]
    rw [if_pos (by omega), if_pos (by omega), if_pos (by omega), wn (by omega), rd146_at l i hlt, List.drop_eq_getElem_cons hlt]
    have hd2 : dueL now (l[i] :: l.drop (i + 1)) = if l[i].f1 = now then l[i].f0 :: dueL now (l.drop (i + 1)) else dueL now (l.drop (i + 1)) := rfl
    rw [hd2]
    by_cases hq : l[i].f1 = now
    · rw [if_pos hq, if_pos hq, if_pos (by omega), ih k (i + 1) _ (by omega) (by omega) (by omega) (by simp; omega)]
      simp
    · rw [if_neg hq, if_neg hq, ih k (i + 1) _ (by omega) (by omega) (by omega) (by omega)]
theorem due_is (l : List S146) (now : Int) (hl : l.length ≤ 1000000000) (k : Nat) (hk : l.length < k) : spec_l3due.f k l now = some (dueL now l) := by
  have := due_loop now l hl l.length k 0 [] (by omega) (by omega) hk (by simp)
  simpa [spec_l3due.f] using this
theorem sets_loop (l : List S84) (hl : l.length ≤ 1048576) (t : Int) (d : Nat) : ∀ (k i : Nat) (last : Int), l.length - i = d → i ≤ l.length → d < k → spec_l3sets.l0 k l t last l (l.length : Int) (i : Int) = some (risingB t last (l.drop i) && decide (l.length ≤ 200)) := by
  induction d with
  | zero =>
    intro k i last hd hi hk
    obtain ⟨k, rfl⟩ : ∃ m, k = m + 1 := ⟨k - 1, by omega⟩
    simp only [spec_l3sets.l0]
    rw [if_neg (by omega), List.drop_of_length_le (by omega)]
    have : decide ((l.length : Int) ≤ 200) = decide (l.length ≤ 200) := decide_eq_decide.2 (by omega)
    rw [this]
    simp [risingB]
  | succ d ih =>
    intro k i last hd hi hk
    obtain ⟨k, rfl⟩ : ∃ m, k = m + 1 := ⟨k - 1, by omega⟩
    have hlt : i < l.length := by omega
    simp only [spec_l3sets.l0]
    rw [if_pos (by omega), if_pos (by omega), if_pos (by omega), wn (by omega), rd84_at l i hlt, List.drop_eq_getElem_cons hlt, l1in_is, Option.bind_some]
    have hd2 : risingB t last (l[i] :: l.drop (i + 1)) = (decide (last ≤ l[i].f0 ∧ l[i].f0 ≤ t) && risingB t l[i].f0 (l.drop (i + 1))) := rfl
    rw [hd2, ih k (i + 1) _ (by omega) (by omega) (by omega)]
    cases decide (last ≤ l[i].f0 ∧ l[i].f0 ≤ t) <;> simp
theorem sets_is (l : List S84) (hl : l.length ≤ 1048576) (t : Int) (k : Nat) (hk : l.length < k) : spec_l3sets.f k l t = some (risingB t 1 l && decide (l.length ≤ 200)) := by
  have := sets_loop l hl t l.length k 0 1 (by omega) (by omega) hk
  simpa [spec_l3sets.f] using this
def fcost : List (List Int) → Nat
  | [] => 0
  | f :: r => f.length + 2 + fcost r
theorem fates_in (fa : List (List Int)) (j : Int) (f : List Int) (hf : f.length ≤ 1048576) (m : Nat) (R : Bool) (hn : ∀ k, m < k → spec_l3fates.l0 k fa fa (fa.length : Int) (wrap64 (j + 1)) = some R) (d : Nat) :
    ∀ (k i : Nat), f.length - i = d → i ≤ f.length → d + m + 1 < k → spec_l3fates.l1 k fa f fa (fa.length : Int) j f (f.length : Int) (i : Int) = some ((f.drop i).all (fun d => decide (1 ≤ d ∧ d ≤ 1000)) && (decide (f.length ≤ 10) && R)) := by
  induction d with
  | zero =>
    intro k i hd hi hk
    obtain ⟨k, rfl⟩ : ∃ m, k = m + 1 := ⟨k - 1, by omega⟩
    simp only [spec_l3fates.l1]
    rw [if_neg (by omega), List.drop_of_length_le (by omega)]
    by_cases h : (f.length : Int) > 10
    · rw [if_pos h, decide_eq_false (by omega)]
      simp
    · rw [if_neg h, decide_eq_true (by omega), hn k (by omega)]
      simp
  | succ d ih =>
    intro k i hd hi hk
    obtain ⟨k, rfl⟩ : ∃ m, k = m + 1 := ⟨k - 1, by omega⟩
    have hlt : i < f.length := by omega
    simp only [spec_l3fates.l1]
    rw [if_pos (by omega), if_pos (by omega), if_pos (by omega), wn (by omega), rd_at f i hlt, List.drop_eq_getElem_cons hlt, l1in_is, Option.bind_some, ih k (i + 1) (by omega) (by omega) (by omega), List.all_cons]
    cases decide (1 ≤ f[i] ∧ f[i] ≤ 1000) <;> simp
theorem fates_loop (fa : List (List Int)) (hl : fa.length ≤ 1048576) (hf : ∀ f, f ∈ fa → f.length ≤ 1048576) (d : Nat) : ∀ (k i : Nat), fa.length - i = d → i ≤ fa.length → fcost (fa.drop i) < k → spec_l3fates.l0 k fa fa (fa.length : Int) (i : Int) = some ((fa.drop i).all fateB && decide (fa.length ≤ 5000)) := by
  induction d with
  | zero =>
    intro k i hd hi hk
    obtain ⟨k, rfl⟩ : ∃ m, k = m + 1 := ⟨k - 1, by omega⟩
    simp only [spec_l3fates.l0]
    rw [if_neg (by omega), List.drop_of_length_le (by omega)]
    have : decide ((fa.length : Int) ≤ 5000) = decide (fa.length ≤ 5000) := decide_eq_decide.2 (by omega)
    rw [this]
    simp
  | succ d ih =>
    intro k i hd hi hk
    obtain ⟨k, rfl⟩ : ∃ m, k = m + 1 := ⟨k - 1, by omega⟩
    have hlt : i < fa.length := by omega
    rw [List.drop_eq_getElem_cons hlt] at hk ⊢
    have hc : fcost (fa[i] :: fa.drop (i + 1)) = fa[i].length + 2 + fcost (fa.drop (i + 1)) := rfl
    rw [hc] at hk
    simp only [spec_l3fates.l0]
    rw [if_pos (by omega), if_pos (by omega), if_pos (by omega), rd5_at fa i hlt]
    have h := fates_in fa (i : Int) fa[i] (hf _ (List.getElem_mem hlt)) (fcost (fa.drop (i + 1))) _ (fun k' hk' => by rw [wn (by omega)]; exact ih k' (i + 1) (by omega) (by omega) hk') fa[i].length k 0 (by omega) (by omega) (by omega)
    rw [List.drop_zero] at h
    rw [List.all_cons]
    have e : fateB fa[i] = (decide (fa[i].length ≤ 10) && fa[i].all (fun d => decide (1 ≤ d ∧ d ≤ 1000))) := rfl
    rw [e]
    refine (show _ = _ from h).trans ?_
    cases fa[i].all (fun d => decide (1 ≤ d ∧ d ≤ 1000)) <;> cases decide (fa[i].length ≤ 10) <;> simp
theorem fates_is (fa : List (List Int)) (hl : fa.length ≤ 1048576) (hf : ∀ f, f ∈ fa → f.length ≤ 1048576) (k : Nat) (hk : fcost fa < k) : spec_l3fates.f k fa = some (fa.all fateB && decide (fa.length ≤ 5000)) := by
  have := fates_loop fa hl hf fa.length k 0 (by omega) (by omega) (by simpa using hk)
  simpa [spec_l3fates.f] using this
theorem ro2 (fa : List (List Int)) (n j : Int) (f : List Int) (hl : f.length ≤ 10) (m : Nat) (R : Bool) (hn : ∀ k, m < k → impl_runOk.l1 k fa n (wrap64 (j + 1)) = some R) (d : Nat) :
    ∀ (k i : Nat), f.length - i = d → i ≤ f.length → d + m + 1 < k → impl_runOk.l2 k fa n j f (f.length : Int) (i : Int) = some ((f.drop i).all (fun d => decide (1 ≤ d ∧ d ≤ 1000)) && R) := by
  induction d with
  | zero =>
    intro k i hd hi hk
    obtain ⟨k, rfl⟩ : ∃ m, k = m + 1 := ⟨k - 1, by omega⟩
    simp only [impl_runOk.l2]
    rw [if_neg (by omega), List.drop_of_length_le (by omega), hn k (by omega)]
    simp
  | succ d ih =>
    intro k i hd hi hk
    obtain ⟨k, rfl⟩ : ∃ m, k = m + 1 := ⟨k - 1, by omega⟩
    have hlt : i < f.length := by omega
    simp only [impl_runOk.l2]
    rw [if_pos (by omega), if_pos (by omega), if_pos (by omega), wn (by omega), rd_at f i hlt, List.drop_eq_getElem_cons hlt, in_is, Option.bind_some, ih k (i + 1) (by omega) (by omega) (by omega), List.all_cons]
    cases decide (1 ≤ f[i] ∧ f[i] ≤ 1000) <;> simp
theorem ro1 (fa : List (List Int)) (hl : fa.length ≤ 5000) (d : Nat) : ∀ (k i : Nat), fa.length - i = d → i ≤ fa.length → 20 * d < k → impl_runOk.l1 k fa (fa.length : Int) (i : Int) = some ((fa.drop i).all fateB) := by
  induction d with
  | zero =>
    intro k i hd hi hk
    obtain ⟨k, rfl⟩ : ∃ m, k = m + 1 := ⟨k - 1, by omega⟩
    simp only [impl_runOk.l1]
    rw [if_neg (by omega), List.drop_of_length_le (by omega)]
    rfl
  | succ d ih =>
    intro k i hd hi hk
    obtain ⟨k, rfl⟩ : ∃ m, k = m + 1 := ⟨k - 1, by omega⟩
    have hlt : i < fa.length := by omega
    simp only [impl_runOk.l1]
    rw [if_pos (by omega), if_pos (by omega), if_pos (by omega), rd5_at fa i hlt, List.drop_eq_getElem_cons hlt, List.all_cons]
    have e : fateB fa[i] = (decide (fa[i].length ≤ 10) && fa[i].all (fun d => decide (1 ≤ d ∧ d ≤ 1000))) := rfl
    rw [e]
    by_cases h10 : (fa[i].length : Int) > 10
    · rw [if_pos h10, decide_eq_false (by omega)]
      simp
    · rw [if_neg h10, decide_eq_true (by omega)]
      have h := ro2 fa (fa.length : Int) (i : Int) fa[i] (by omega) (20 * d) _ (fun k' hk' => by rw [wn (by omega)]; exact ih k' (i + 1) (by omega) (by omega) hk') fa[i].length k 0 (by omega) (by omega) (by omega)
      rw [List.drop_zero] at h
      simpa using h
theorem ro0 (t : Int) (fa : List (List Int)) (hl : fa.length ≤ 5000) (l : List S84) (hl1 : l.length ≤ 200) (d : Nat) :
    ∀ (k i : Nat) (last : Int), l.length - i = d → i ≤ l.length → 20 * fa.length + d + 1 < k → impl_runOk.l0 k fa t last l (l.length : Int) (i : Int) = some (risingB t last (l.drop i) && fa.all fateB) := by
  induction d with
  | zero =>
    intro k i last hd hi hk
    obtain ⟨k, rfl⟩ : ∃ m, k = m + 1 := ⟨k - 1, by omega⟩
    simp only [impl_runOk.l0]
    rw [if_neg (by omega), List.drop_of_length_le (by omega)]
    have h := ro1 fa hl fa.length k 0 (by omega) (by omega) (by omega)
    rw [List.drop_zero] at h
    simpa [risingB] using h
  | succ d ih =>
    intro k i last hd hi hk
    obtain ⟨k, rfl⟩ : ∃ m, k = m + 1 := ⟨k - 1, by omega⟩
    have hlt : i < l.length := by omega
    simp only [impl_runOk.l0]
    rw [if_pos (by omega), if_pos (by omega), if_pos (by omega), wn (by omega), rd84_at l i hlt, List.drop_eq_getElem_cons hlt, in_is, Option.bind_some]
    have hd2 : risingB t last (l[i] :: l.drop (i + 1)) = (decide (last ≤ l[i].f0 ∧ l[i].f0 ≤ t) && risingB t l[i].f0 (l.drop (i + 1))) := rfl
    rw [hd2, ih k (i + 1) _ (by omega) (by omega) (by omega)]
    cases decide (last ≤ l[i].f0 ∧ l[i].f0 ≤ t) <;> simp
theorem goodB_eq (a0 a1 a2 : Int) (l1 : List S84) (l2 : List (List Int)) (a3 : Int) : goodB a0 a1 a2 l1 l2 a3 = (rulesB a0 a1 a2 && decide (0 ≤ a3 ∧ a3 ≤ 2000) && (risingB a3 1 l1 && decide (l1.length ≤ 200)) && (l2.all fateB && decide (l2.length ≤ 5000))) := by
  have e : goodB a0 a1 a2 l1 l2 a3 = (rulesB a0 a1 a2 && decide (0 ≤ a3 ∧ a3 ≤ 2000) && decide (l1.length ≤ 200 ∧ l2.length ≤ 5000) && risingB a3 1 l1 && l2.all fateB) := rfl
  rw [e]
  by_cases h1 : l1.length ≤ 200 <;> by_cases h2 : l2.length ≤ 5000 <;> simp [h1, h2]
theorem runOk_all (a0 a1 a2 : Int) (l1 : List S84) (l2 : List (List Int)) (a3 : Int) (k : Nat) (hk : 110000 < k) : impl_runOk.f k a0 a1 a2 l1 l2 a3 = some (goodB a0 a1 a2 l1 l2 a3) := by
  obtain ⟨m, rfl⟩ : ∃ m, k = m + 1 := ⟨k - 1, by omega⟩
  rw [goodB_eq]
  unfold impl_runOk.f
  rw [rules_is, Option.bind_some, in_is, Option.bind_some]
  cases rulesB a0 a1 a2
  · simp [impl_runOk.j0]
  · rw [if_pos rfl]
    cases decide (0 ≤ a3 ∧ a3 ≤ 2000)
    · simp [impl_runOk.j0]
    · rw [if_pos rfl]
      by_cases h1 : (l1.length : Int) > 200
      · rw [if_pos h1]
        have : ¬ l1.length ≤ 200 := by omega
        simp [impl_runOk.j0, this]
      · rw [if_neg h1]
        by_cases h2 : (l2.length : Int) > 5000
        · have : ¬ l2.length ≤ 5000 := by omega
          simp [impl_runOk.j0, h2, this]
        · have h := ro0 a3 l2 (by omega) l1 (by omega) l1.length m 0 1 (by omega) (by omega) (by omega)
          rw [List.drop_zero] at h
          have g1 : l1.length ≤ 200 := by omega
          have g2 : l2.length ≤ 5000 := by omega
          rw [decide_eq_false h2]
          simp only [impl_runOk.j0, Bool.false_eq_true, if_false]
          refine (show _ = _ from h).trans ?_
          simp [g1, g2]
def sized (l1 : List S84) (l2 : List (List Int)) : Bool := decide (l1.length ≤ 1048576) && decide (l2.length ≤ 1048576) && l2.all (fun f => decide (f.length ≤ 1048576))
theorem sized_of {l1 : List S84} {l2 : List (List Int)} (h : sized l1 l2 = true) : l1.length ≤ 1048576 ∧ l2.length ≤ 1048576 ∧ ∀ f, f ∈ l2 → f.length ≤ 1048576 := by
  unfold sized at h
  simp only [Bool.and_eq_true, decide_eq_true_eq, List.all_eq_true] at h
  exact ⟨h.1.1, h.1.2, h.2⟩
theorem sized_to {l1 : List S84} {l2 : List (List Int)} (h1 : l1.length ≤ 1048576) (h2 : l2.length ≤ 1048576) (h3 : ∀ f, f ∈ l2 → f.length ≤ 1048576) : sized l1 l2 = true := by
  unfold sized
  simp only [Bool.and_eq_true, decide_eq_true_eq, List.all_eq_true]
  exact ⟨⟨h1, h2⟩, h3⟩
def runAll (a0 a1 a2 : Int) (l1 : List S84) (l2 : List (List Int)) (a3 : Int) : List S86 :=
  if goodB a0 a1 a2 l1 l2 a3 = true then runLoop a0 a1 a2 l2 a3 a3.toNat 1 z29 z48 (List.replicate (a3 + 1).toNat []) (List.replicate (a3 + 1).toNat []) 0 l1 [] else []
def impl_RunA.f (a0 a1 a2 : Int) (l1 : List S84) (l2 : List (List Int)) (a3 : Int) : Option (List S86) := if sized l1 l2 = true then some (runAll a0 a1 a2 l1 l2 a3) else none
def spec_Run.f (a0 a1 a2 : Int) (l1 : List S84) (l2 : List (List Int)) (a3 : Int) : Option (List S86) := if sized l1 l2 = true then some (runAll a0 a1 a2 l1 l2 a3) else none
theorem air_start (ticks : Int) (j : Nat) : Air 1 ticks [] (List.replicate j []) := by
  intro m _ _
  rw [List.getD_eq_getElem?_getD]
  cases h : (List.replicate j ([] : List S133))[m.toNat]? with
  | none => rfl
  | some q =>
    have := List.eq_of_mem_replicate (List.mem_of_getElem? h)
    subst this
    rfl
theorem Air.next {lo ticks : Int} {l : List S146} {rows : List (List S133)} (h : Air lo ticks l rows) : Air (lo + 1) ticks l rows := fun m h1 h2 => h m (by omega) h2
theorem drop60 {l : List S60} {x : Int} (h0 : 0 ≤ x) (h : x < (l.length : Int)) : l.drop x.toNat = rd_T60 l x :: l.drop (x + 1).toNat := by
  have h1 : x.toNat < l.length := by omega
  rw [List.drop_eq_getElem_cons h1, show (x + 1).toNat = x.toNat + 1 by omega]
  simp [rd_T60, List.getD_eq_getElem?_getD, h1]
theorem mem60 {l : List S60} {x : Int} (h0 : 0 ≤ x) (h : x < (l.length : Int)) : rd_T60 l x ∈ l := by
  have h1 : x.toNat < l.length := by omega
  rw [show rd_T60 l x = l[x.toNat] by simp [rd_T60, List.getD_eq_getElem?_getD, h1]]
  exact List.getElem_mem h1
theorem drop84 {l : List S84} {x : Int} (h0 : 0 ≤ x) (h : x < (l.length : Int)) : l.drop x.toNat = rd_T84 l x :: l.drop (x + 1).toNat := by
  have h1 : x.toNat < l.length := by omega
  rw [List.drop_eq_getElem_cons h1, show (x + 1).toNat = x.toNat + 1 by omega]
  simp [rd_T84, List.getD_eq_getElem?_getD, h1]
theorem atT_cons (now : Int) (s : S84) (r : List S84) : atT now (s :: r) = if s.f0 = now then s.f1 :: atT now r else atT now r := rfl
end Go.Proofs.Ytndffnacbfdnoaa.PAll
