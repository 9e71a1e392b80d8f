-- Lines of RunM that this claim uses.
import Derived.Test.YtndffnacbfdnoaaRURunSend
import Derived.Test.YtndffnacbfdnoaaRUPkt
import Derived.Test.YtndffnacbfdnoaaRUPkb
import Derived.Test.YtndffnacbfdnoaaRUPAllx22
set_option linter.unusedSimpArgs false
set_option linter.unusedVariables false
namespace Go.Proofs.Ytndffnacbfdnoaa.PAll
open Go.RowKit Go.Proofs.YtndffnacbfdnoaaW.PrintWords Go.Proofs.YtndffnacbfdnoaaW.PrintLast Go.Proofs.YtndffnacbfdnoaaW.PrintMore Go.Proofs.Ytndffnacbfdnoaa.Plain Go.Proofs.Ytndffnacbfdnoaa.Pure
def rulesB (a0 a1 a2 : Int) : Bool := decide (1 ≤ a0 ∧ a0 ≤ 1000 ∧ 1 ≤ a1 ∧ a1 ≤ 10000 ∧ 0 ≤ a2 ∧ a2 ≤ a1)
def boxB (now : Int) (b : S29) : Bool := decide (0 ≤ now ∧ now ≤ 1000000000 ∧ 0 ≤ b.f0 ∧ b.f0 ≤ 1000000000 ∧ 0 ≤ b.f2 ∧ b.f2 ≤ b.f0 ∧ 0 ≤ b.f3 ∧ b.f3 ≤ now ∧ 0 ≤ b.f4 ∧ b.f4 ≤ now)
def trainB (now : Int) (t : S48) : Bool := decide (0 ≤ now ∧ now ≤ 1000000000 ∧ 0 ≤ t.f0 ∧ t.f0 ≤ 1000000000 ∧ 0 ≤ t.f2 ∧ t.f2 ≤ now)
def pkB (now : Int) (p : S60) : Bool := decide ((p.f0 = 1 ∨ p.f0 = 2 ∧ p.f2 = 0) ∧ 0 ≤ p.f1 ∧ p.f1 ≤ 1000000000 ∧ 0 ≤ p.f3 ∧ p.f3 ≤ 1000000000 ∧ p.f3 ≤ now)
def pksB (now : Int) (l : List S60) : Bool := decide (l.length ≤ 1000) && l.all (pkB now)
def boxF (a0 a1 a2 now : Int) (b : S29) (vs : List Int) (ps : List S60) : Bool × Int × Int × Int × Int × Int × List S60 :=
  if (rulesB a0 a1 a2 && boxB now b && pksB now ps && decide (vs.length ≤ 100) && decide (wrap64 (b.f0 + (vs.length : Int)) ≤ 1000000000)) = true then boxRes now a0 b.f0 b.f1 b.f2 b.f3 b.f4 vs ps else (false, 0, 0, 0, 0, 0, [])
def trainF (a0 a1 a2 now : Int) (t : S48) (ps : List S60) : Bool × Int × Int × Int × List S60 × Int :=
  if (rulesB a0 a1 a2 && trainB now t && pksB now ps) = true then
    (true, (ps.foldl (tStep now a2) ⟨t.f0, t.f1, t.f2, [], 0⟩).v, (ps.foldl (tStep now a2) ⟨t.f0, t.f1, t.f2, [], 0⟩).x, (ps.foldl (tStep now a2) ⟨t.f0, t.f1, t.f2, [], 0⟩).s, (ps.foldl (tStep now a2) ⟨t.f0, t.f1, t.f2, [], 0⟩).sent, (ps.foldl (tStep now a2) ⟨t.f0, t.f1, t.f2, [], 0⟩).n)
  else (false, 0, 0, 0, [], 0)
def vals (now : Int) : List S84 → List Int × List S84
  | [] => ([], [])
  | s :: r => if s.f0 = now then (s.f1 :: (vals now r).1, (vals now r).2) else ([], s :: r)
def pks (l : List S133) : List S60 := l.map (·.f0)
def runLoop (a0 a1 a2 : Int) (fa : List (List Int)) (ticks : Int) : Nat → Int → S29 → S48 → List (List S133) → List (List S133) → Int → List S84 → List S86 → List S86
  | 0, _, _, _, _, _, _, _, out => out
  | k + 1, now, b, t, rB, rT, n, sets, out =>
    let x := boxF a0 a1 a2 now b (vals now sets).1 (pks (rB.getD now.toNat []))
    let b' : S29 := ⟨x.2.1, x.2.2.1, x.2.2.2.1, x.2.2.2.2.1, x.2.2.2.2.2.1⟩
    let T := sendL fa now ticks x.2.2.2.2.2.2 n rT
    let y := trainF a0 a1 a2 now t (pks (T.1.getD now.toNat []))
    let t' : S48 := ⟨y.2.1, y.2.2.1, y.2.2.2.1⟩
    let B := sendL fa now ticks y.2.2.2.2.1 T.2 rB
    if x.1 = true then (if y.1 = true then runLoop a0 a1 a2 fa ticks k (now + 1) b' t' B.1 T.1 B.2 (vals now sets).2 (out ++ [⟨b', t', (x.2.2.2.2.2.2.length : Int) + (y.2.2.2.2.1.length : Int), y.2.2.2.2.2⟩]) else []) else []
def rising (ticks : Int) : Int → List S84 → Prop
  | _, [] => True
  | last, s :: r => last ≤ s.f0 ∧ s.f0 ≤ ticks ∧ rising ticks s.f0 r
structure RunGood (a0 a1 a2 : Int) (l1 : List S84) (l2 : List (List Int)) (a3 : Int) : Prop where
  rules : rulesB a0 a1 a2 = true
  t0 : 0 ≤ a3
  t1 : a3 ≤ 2000
  n1 : l1.length ≤ 200
  n2 : l2.length ≤ 5000
  rise : rising a3 1 l1
  fa : ∀ f, f ∈ l2 → f.length ≤ 10 ∧ ∀ d, d ∈ f → 1 ≤ d ∧ d ≤ 1000
def risingB (ticks : Int) : Int → List S84 → Bool
  | _, [] => true
  | last, s :: r => decide (last ≤ s.f0 ∧ s.f0 ≤ ticks) && risingB ticks s.f0 r
def goodB (a0 a1 a2 : Int) (l1 : List S84) (l2 : List (List Int)) (a3 : Int) : Bool :=
  rulesB a0 a1 a2 && decide (0 ≤ a3 ∧ a3 ≤ 2000) && decide (l1.length ≤ 200 ∧ l2.length ≤ 5000) && risingB a3 1 l1 && l2.all (fun f => decide (f.length ≤ 10) && f.all (fun d => decide (1 ≤ d ∧ d ≤ 1000)))
def impl_Run.f (a0 a1 a2 : Int) (l1 : List S84) (l2 : List (List Int)) (a3 : Int) : Option (List S86) :=
  if goodB a0 a1 a2 l1 l2 a3 = true then some (runLoop a0 a1 a2 l2 a3 a3.toNat 1 z29 z48 (List.replicate (a3 + 1).toNat []) (List.replicate (a3 + 1).toNat []) 0 l1 []) else none
theorem rising_of (ticks : Int) : ∀ (l : List S84) (last : Int), risingB ticks last l = true → rising ticks last l
  | [], _, _ => trivial
  | s :: r, last, h => by
    unfold risingB at h
    simp only [Bool.and_eq_true, decide_eq_true_eq] at h
    exact ⟨h.1.1, h.1.2, rising_of ticks r s.f0 h.2⟩
theorem good_of {a0 a1 a2 : Int} {l1 : List S84} {l2 : List (List Int)} {a3 : Int} (h : goodB a0 a1 a2 l1 l2 a3 = true) : RunGood a0 a1 a2 l1 l2 a3 := by
  unfold goodB at h
  simp only [Bool.and_eq_true, decide_eq_true_eq, List.all_eq_true] at h
  exact ⟨h.1.1.1.1, h.1.1.1.2.1, h.1.1.1.2.2, h.1.1.2.1, h.1.1.2.2, rising_of _ _ _ h.1.2, fun f hf => ⟨(h.2 f hf).1, fun d hd => (h.2 f hf).2 d hd⟩⟩
theorem in_is (a b c : Int) : impl_in.f a b c = some (decide (b ≤ a ∧ a ≤ c)) := by
  unfold impl_in.f
  by_cases h : b ≤ a <;> simp [h]
theorem rules_is (a b c : Int) : impl_RulesOk.f a b c = some (rulesB a b c) := by
  unfold impl_RulesOk.f rulesB
  by_cases h1 : 1 ≤ a <;> by_cases h2 : a ≤ 1000 <;> by_cases h3 : 1 ≤ b <;> by_cases h4 : b ≤ 10000 <;> by_cases h5 : 0 ≤ c <;> simp [h1, h2, h3, h4, h5]
theorem box_ok_is (now : Int) (b : S29) : impl_BoxOk.f now b.f0 b.f1 b.f2 b.f3 b.f4 = some (boxB now b) := by
  simp only [impl_BoxOk.f, in_is, Option.bind_some, boxB]
  by_cases h1 : 0 ≤ now ∧ now ≤ 1000000000 <;> by_cases h2 : 0 ≤ b.f0 ∧ b.f0 ≤ 1000000000 <;> by_cases h3 : 0 ≤ b.f2 ∧ b.f2 ≤ b.f0 <;> by_cases h4 : 0 ≤ b.f3 ∧ b.f3 ≤ now <;> simp [h1, h2, h3, h4] <;> intros <;> omega
theorem train_ok_is (now : Int) (t : S48) : impl_TrainOk.f now t.f0 t.f1 t.f2 = some (trainB now t) := by
  simp only [impl_TrainOk.f, in_is, Option.bind_some, trainB]
  by_cases h1 : 0 ≤ now ∧ now ≤ 1000000000 <;> by_cases h2 : 0 ≤ t.f0 ∧ t.f0 ≤ 1000000000 <;> simp [h1, h2] <;> intros <;> omega
theorem pk_is (p : S60) : impl_PacketOk.f p.f0 p.f1 p.f2 p.f3 = some (decide ((p.f0 = 1 ∨ p.f0 = 2 ∧ p.f2 = 0) ∧ 0 ≤ p.f1 ∧ p.f1 ≤ 1000000000 ∧ 0 ≤ p.f3 ∧ p.f3 ≤ 1000000000)) := by
  unfold impl_PacketOk.f
  by_cases h1 : p.f0 = 1
  · by_cases h2 : 0 ≤ p.f1 <;> by_cases h3 : p.f1 ≤ 1000000000 <;> by_cases h4 : 0 ≤ p.f3 <;> simp [h1, h2, h3, h4]
  · by_cases h0 : p.f0 = 2 <;> by_cases h5 : p.f2 = 0 <;> by_cases h2 : 0 ≤ p.f1 <;> by_cases h3 : p.f1 ≤ 1000000000 <;> by_cases h4 : 0 ≤ p.f3 <;> simp [h1, h0, h5, h2, h3, h4]
theorem pks_loop_is (now : Int) (l : List S60) (hl : l.length ≤ 1048576) (d : Nat) : ∀ (k i : Nat), l.length - i = d → i ≤ l.length → d < k → impl_packetsOk.l0 k now l (l.length : Int) (i : Int) = some ((l.drop i).all (pkB now)) := by
  induction d with
  | zero =>
    intro k i hd hi hk
    obtain ⟨k, rfl⟩ : ∃ m, k = m + 1 := ⟨k - 1, by omega⟩
    simp only [impl_packetsOk.l0]
    rw [if_neg (by omega), List.drop_of_length_le (by omega)]
    rfl
  | succ d ih =>
    intro k i hd hi hk
    obtain ⟨k, rfl⟩ : ∃ m, k = m + 1 := ⟨k - 1, by omega⟩
    have hlt : i < l.length := by omega
    have c1 : (i : Int) < (l.length : Int) := by omega
    have c2 : (0 : Int) ≤ (i : Int) := by omega
    have c3 : wrap64 ((i : Int) + 1) = ((i + 1 : Nat) : Int) := wn (by omega)
    rw [List.drop_eq_getElem_cons hlt, List.all_cons]
    simp only [impl_packetsOk.l0, c1, c2, c3, if_true, rd60 l i hlt, pk_is, Option.bind_some]
    rw [ih k (i + 1) (by omega) (by omega) (by omega)]
    unfold pkB
    by_cases h : ((l[i]).f0 = 1 ∨ (l[i]).f0 = 2 ∧ (l[i]).f2 = 0) ∧ 0 ≤ (l[i]).f1 ∧ (l[i]).f1 ≤ 1000000000 ∧ 0 ≤ (l[i]).f3 ∧ (l[i]).f3 ≤ 1000000000
    · by_cases h2 : (l[i]).f3 > now
      · have : ¬ (l[i]).f3 ≤ now := by omega
        simp [h, h2, this]
      · have h3 : (l[i]).f3 ≤ now := by omega
        simp [h, h2, h3]
    · have h2 : ¬ (((l[i]).f0 = 1 ∨ (l[i]).f0 = 2 ∧ (l[i]).f2 = 0) ∧ 0 ≤ (l[i]).f1 ∧ (l[i]).f1 ≤ 1000000000 ∧ 0 ≤ (l[i]).f3 ∧ (l[i]).f3 ≤ 1000000000 ∧ (l[i]).f3 ≤ now) := fun hh => h ⟨hh.1, hh.2.1, hh.2.2.1, hh.2.2.2.1, hh.2.2.2.2.1⟩
      rw [decide_eq_false h, decide_eq_false h2]
      simp
theorem pks_is (now : Int) (l : List S60) (hl : l.length ≤ 1048576) (k : Nat) (hk : l.length < k) : impl_packetsOk.f k now l = some (pksB now l) := by
  unfold impl_packetsOk.f pksB
  by_cases h : (l.length : Int) > 1000
  · rw [if_pos h, decide_eq_false (by omega)]
    rfl
  · rw [if_neg h, decide_eq_true (by omega)]
    have := pks_loop_is now l hl l.length k 0 (by omega) (by omega) hk
    simpa using this
theorem box_is (a0 a1 a2 now : Int) (b : S29) (vs : List Int) (ps : List S60) (hv : vs.length ≤ 1048576) (hp : ps.length ≤ 1048576) (k : Nat) (hk : ps.length + vs.length + 20 < k) : impl_BoxTick.f k a0 a1 a2 now b.f0 b.f1 b.f2 b.f3 b.f4 vs ps = some (boxF a0 a1 a2 now b vs ps) := by
  have hi := impl_bloop now a0 a1 a2 b.f0 b.f1 b.f3 vs hv ps hp ps.length k 0 b.f2 b.f4 (by omega) (by omega) (by omega)
  rw [List.drop_zero] at hi
  simp only [impl_BoxTick.f, impl_boxTick.f, rules_is, box_ok_is, pks_is now ps hp k (by omega), Option.bind_some]
  rw [show ((0 : Nat) : Int) = 0 from rfl] at hi
  rw [hi]
  unfold boxF
  cases rulesB a0 a1 a2 <;> cases boxB now b <;> cases pksB now ps <;> simp only [Bool.false_and, Bool.and_false, Bool.true_and, if_true, if_false, Bool.false_eq_true]
  by_cases h1 : (vs.length : Int) > 100
  · rw [if_pos h1, decide_eq_false (by omega)]
    simp
  · rw [if_neg h1, decide_eq_true (by omega)]
    by_cases h2 : wrap64 (b.f0 + (vs.length : Int)) > 1000000000
    · rw [if_pos h2, decide_eq_false (by omega)]
      simp
    · rw [if_neg h2, decide_eq_true (by omega)]
      simp
theorem train_is (a0 a1 a2 now : Int) (t : S48) (ps : List S60) (hp : ps.length ≤ 1048576) (k : Nat) (hk : ps.length + 20 < k) : impl_TrainTick.f k a0 a1 a2 now t.f0 t.f1 t.f2 ps = some (trainF a0 a1 a2 now t ps) := by
  have hi := impl_tloop now a0 a1 a2 0 0 0 ps hp ps.length k 0 ⟨t.f0, t.f1, t.f2, [], 0⟩ (by omega) (by omega) (by omega) (by simp)
  rw [List.drop_zero] at hi
  simp only [impl_TrainTick.f, impl_trainTick.f, rules_is, train_ok_is, pks_is now ps hp k (by omega), Option.bind_some]
  rw [show ((0 : Nat) : Int) = 0 from rfl] at hi
  rw [hi]
  unfold trainF
  cases rulesB a0 a1 a2 <;> cases trainB now t <;> cases pksB now ps <;> simp
theorem rpk_loop (l : List S133) (hl : l.length ≤ 1000000000) (d : Nat) : ∀ (k i : Nat) (out : List S60), l.length - i = d → i ≤ l.length → d < k → out.length ≤ i → impl_RunPk.l0 k out l (l.length : Int) (i : Int) = some (out ++ pks (l.drop i)) := by
  induction d with
  | zero =>
    intro k i out hd hi hk ho
    obtain ⟨k, rfl⟩ : ∃ m, k = m + 1 := ⟨k - 1, by omega⟩
    simp only [impl_RunPk.l0]
    rw [if_neg (by omega), List.drop_of_length_le (by omega)]
    simp [pks]
  | succ d ih =>
    intro k i out hd hi hk ho
    obtain ⟨k, rfl⟩ : ∃ m, k = m + 1 := ⟨k - 1, by omega⟩
    have hlt : i < l.length := by omega
    simp only [impl_RunPk.l0]
    rw [if_pos (by omega), if_pos (by omega), if_pos (by omega), if_pos (by omega), wn (by omega), ih k (i + 1) _ (by omega) (by omega) (by omega) (by simp; omega), List.drop_eq_getElem_cons hlt]
    have : rd_T133 l (i : Int) = l[i] := by simp [rd_T133, List.getD_eq_getElem?_getD, hlt]
    rw [this]
    simp only [pks, List.map_cons, List.append_assoc]
    rfl
theorem rpk_is (l : List S133) (hl : l.length ≤ 1000000000) (k : Nat) (hk : l.length < k) : impl_RunPk.f k l = some (pks l) := by
  have := rpk_loop l hl l.length k 0 [] (by omega) (by omega) hk (by simp)
  simpa [impl_RunPk.f] using this
theorem ro_l2 (fa : List (List Int)) (n j : Int) (f : List Int) (hf : ∀ d, d ∈ f → 1 ≤ d ∧ d ≤ 1000) (hl : f.length ≤ 10) (m : Nat) (hn : ∀ k, m < k → impl_runOk.l1 k fa n (wrap64 (j + 1)) = some true) (d : Nat) :
    ∀ (k i : Nat), f.length - i = d → i ≤ f.length → d + m + 1 < k → impl_runOk.l2 k fa n j f (f.length : Int) (i : Int) = some true := by
  induction d with
  | zero =>
    intro k i hd hi hk
    obtain ⟨k, rfl⟩ : ∃ m, k = m + 1 := ⟨k - 1, by omega⟩
    simp only [impl_runOk.l2]
    rw [if_neg (by omega)]
    exact hn k (by omega)
  | succ d ih =>
    intro k i hd hi hk
    obtain ⟨k, rfl⟩ : ∃ m, k = m + 1 := ⟨k - 1, by omega⟩
    have hlt : i < f.length := by omega
    simp only [impl_runOk.l2]
    have h1 := hf f[i] (List.getElem_mem hlt)
    have h2 : rd f (i : Int) = f[i] := rd_at f i hlt
    rw [if_pos (by omega), if_pos (by omega), if_pos (by omega), h2, in_is, decide_eq_true h1, wn (by omega)]
    exact ih k (i + 1) (by omega) (by omega) (by omega)
theorem ro_l1 (fa : List (List Int)) (hfa : ∀ f, f ∈ fa → f.length ≤ 10 ∧ ∀ d, d ∈ f → 1 ≤ d ∧ d ≤ 1000) (hl : fa.length ≤ 5000) (d : Nat) :
    ∀ (k i : Nat), fa.length - i = d → i ≤ fa.length → 20 * d < k → impl_runOk.l1 k fa (fa.length : Int) (i : Int) = some true := by
  induction d with
  | zero =>
    intro k i hd hi hk
    obtain ⟨k, rfl⟩ : ∃ m, k = m + 1 := ⟨k - 1, by omega⟩
    simp only [impl_runOk.l1]
    rw [if_neg (by omega)]
  | succ d ih =>
    intro k i hd hi hk
    obtain ⟨k, rfl⟩ : ∃ m, k = m + 1 := ⟨k - 1, by omega⟩
    have hlt : i < fa.length := by omega
    have h2 : rd_L5 fa (i : Int) = fa[i] := by simp [rd_L5, List.getD_eq_getElem?_getD, hlt]
    obtain ⟨h3, h4⟩ := hfa fa[i] (List.getElem_mem hlt)
    simp only [impl_runOk.l1]
    rw [if_pos (by omega), if_pos (by omega), if_pos (by omega), h2, if_neg (by omega)]
    have h := ro_l2 fa (fa.length : Int) (i : Int) fa[i] h4 h3 (20 * d) (fun k' hk' => by rw [wn (by omega)]; exact ih k' (i + 1) (by omega) (by omega) hk') fa[i].length k 0 (by omega) (by omega) (by omega)
    simpa using h
theorem ro_l0 (ticks : Int) (ht : ticks ≤ 2000) (fa : List (List Int)) (hfa : ∀ f, f ∈ fa → f.length ≤ 10 ∧ ∀ d, d ∈ f → 1 ≤ d ∧ d ≤ 1000) (hl : fa.length ≤ 5000) (l : List S84) (hl1 : l.length ≤ 200) (d : Nat) :
    ∀ (k i : Nat) (last : Int), l.length - i = d → i ≤ l.length → 20 * fa.length + d + 1 < k → rising ticks last (l.drop i) → impl_runOk.l0 k fa ticks last l (l.length : Int) (i : Int) = some true := by
  induction d with
  | zero =>
    intro k i last hd hi hk hr
    obtain ⟨k, rfl⟩ : ∃ m, k = m + 1 := ⟨k - 1, by omega⟩
    simp only [impl_runOk.l0]
    rw [if_neg (by omega)]
    have h := ro_l1 fa hfa hl fa.length k 0 (by omega) (by omega) (by omega)
    simpa using h
  | succ d ih =>
    intro k i last hd hi hk hr
    obtain ⟨k, rfl⟩ : ∃ m, k = m + 1 := ⟨k - 1, by omega⟩
    have hlt : i < l.length := by omega
    rw [List.drop_eq_getElem_cons hlt] at hr
    obtain ⟨h1, h2, h3⟩ := hr
    have h4 : rd_T84 l (i : Int) = l[i] := by simp [rd_T84, List.getD_eq_getElem?_getD, hlt]
    simp only [impl_runOk.l0]
    rw [if_pos (by omega), if_pos (by omega), if_pos (by omega), h4, in_is, decide_eq_true ⟨h1, h2⟩, wn (by omega)]
    exact ih k (i + 1) _ (by omega) (by omega) (by omega) h3
theorem runOk_is {a0 a1 a2 : Int} {l1 : List S84} {l2 : List (List Int)} {a3 : Int} (g : RunGood a0 a1 a2 l1 l2 a3) (k : Nat) (hk : 110000 < k) : impl_runOk.f k a0 a1 a2 l1 l2 a3 = some true := by
  obtain ⟨m, rfl⟩ : ∃ m, k = m + 1 := ⟨k - 1, by omega⟩
  have h1 := g.n1
  have h2 := g.n2
  have h := ro_l0 a3 g.t1 l2 g.fa g.n2 l1 g.n1 l1.length m 0 1 (by omega) (by omega) (by omega) (by simpa using g.rise)
  unfold impl_runOk.f
  rw [rules_is, g.rules, Option.bind_some, if_pos rfl, in_is, decide_eq_true ⟨g.t0, g.t1⟩, Option.bind_some, if_pos rfl, if_neg (by omega), decide_eq_false (by omega)]
  simp only [impl_runOk.j0, Bool.false_eq_true, if_false]
  simpa using h
end Go.Proofs.Ytndffnacbfdnoaa.PAll
