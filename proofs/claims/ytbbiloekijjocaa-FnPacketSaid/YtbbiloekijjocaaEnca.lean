/- The functions Encode and Decode of the program with their closures: what they answer, by a walk. Conditions: none for Encode and Decode beyond those of the printed contracts (the row of bytes reads as the list). -/
import Derived.Test.YtbbiloekijjocaaPAllx2
namespace Go.Proofs.Ytbbiloekijjocaa.PAll
open Go.RowKit Go.Proofs.YtbbiloekijjocaaW.PrintWords Go.Proofs.YtbbiloekijjocaaW.PrintLast Go.Proofs.YtbbiloekijjocaaW.PrintMore
set_option linter.unusedVariables false
set_option linter.unusedSimpArgs false

/-- The i-th byte of x, as the closure reckons it. -/
def putByte (x : Int) (i : Nat) : Int := IntKind.u8.wrap (x / 2 ^ (8 * (i : Int)).toNat)
def putBytes (x : Int) (n : Nat) : List Int := (List.range n).map (putByte x)
theorem putBytes_succ (x : Int) (n : Nat) : putBytes x (n + 1) = putBytes x n ++ [putByte x n] := by
  simp [putBytes, List.range_succ]
theorem putBytes_len (x : Int) (n : Nat) : (putBytes x n).length = n := by simp [putBytes]
set_option maxHeartbeats 800000 in
set_option maxRecDepth 100000 in
/-- The closure put, called with n at most 8: the row in the captured variable has n bytes of x more. -/
theorem put_calls (bb : Nat) (v : Value) (l : List Int) (x : Int) (n : Nat) (w0 w : World) (hB : Below w0.heap.size w0 w) (hge : w0.heap.size ≤ bb) (hbk : w.heap[bb]? = some (.cells #[v] 24 (0, 0)))
    (ho : Kd.R (Kd.int .u8) 5 w w0.heap.size (fun _ => True) v l) (hx : 0 ≤ x) (hn : n ≤ 8) (hl : l.length ≤ 1000) :
    Calls Try.prog 22 #[.int .u64 x, .int .i64 (n : Int), .pointer (some ⟨bb, 0, none⟩)] w fun e w' => e = .returned (.tuple #[]) ∧ ∃ v' : Value, w'.heap[bb]? = some (.cells #[v'] 24 (0, 0)) ∧ Kd.R (Kd.int .u8) 5 w' w0.heap.size (fun _ => True) v' (l ++ putBytes x n) ∧ Below w0.heap.size w0 w' ∧ Kept w w' (fun k_ => k_ = bb ∨ some k_ = v.ownBlock) := by
  have HB := Aside0.mk hB
  clear hB
  have HO := Aside0.mk ho
  have HBK := Aside0.mk hbk
  have HK := Aside0.mk (Kept.refl w (fun k_ => k_ = bb ∨ some k_ = v.ownBlock))
  clear ho hbk
  go_enter Try.func22, Try.ntmps22
  go_wp2
  go_loopg [5, 7] n (fun kq v5 v7 w' => ∃ (i : Nat) (u : Value), v7 = .int .i64 i ∧ Aside0 (i + kq = n) ∧ Aside0 (∀ k_, u.ownBlock = some k_ → some k_ = v.ownBlock ∨ w.heap.size ≤ k_) ∧ Aside0 (w'.heap[bb]? = some (.cells #[u] 24 (0, 0))) ∧ Aside0 (Kd.R (Kd.int .u8) 5 w' w0.heap.size (fun _ => True) u (l ++ putBytes x i)) ∧ Aside0 (Below w0.heap.size w0 w') ∧ Aside0 (Kept w w' (fun k_ => k_ = bb ∨ some k_ = v.ownBlock)))
  case atStart => exact ⟨0, v, rfl, ⟨by omega⟩, ⟨fun k_ h => .inl h.symm⟩, HBK, ⟨by simpa [putBytes] using HO.out⟩, HB, HK⟩
  case round =>
    obtain ⟨i, u, rfl, HI, HU, BK, HR, HB, HK⟩ := hrel
    cases gk with
    | zero =>
      have hi := HI.out
      have hge : ¬ (i : Int) < (n : Int) := by omega
      go_wp2
      go_end0
      have e : i = n := by omega
      subst e
      exact ⟨rfl, u, BK.out, HR.out, HB.out, HK.out⟩
    | succ gk1 =>
      have hlt : (i : Int) < (n : Int) := by have := HI.out; omega
      have hi8 : i < 8 := by have := HI.out; omega
      have hc : wr.cell? ⟨bb, 0, none⟩ = some u := (blk_cell BK.out 0).trans rfl
      go_wp2
      refine start_ (n := 9) (S := fun w' => w'.cell? ⟨bb, 0, none⟩ = some u) (ds := [8]) #[false, false, false, false, false, false, false, false, false] (by kernel_rfl) rfl rfl hc (fun hHeld => ?_)
      replace BK := Aside0.mk (blk_drew BK.out)
      replace HR := Aside0.mk (Kd.R_drew HR.out)
      replace HB := Aside0.mk (below_drew1 HB.out)
      replace HK := Aside0.mk (Kept.drew HK.out)
      clear hc
      generalize wr.drew = w1 at BK HR HB HK hHeld ⊢
      refine pure_ (i := 1) (N := some 11) (v := ?_) (a' := ?_) #[false, true, false, false, false, false, false, false, false] rfl rfl (by kernel_rfl) (fun _ _ _ h => h) (Or.inl ⟨by rfl, ?_⟩) ?_ ?_
      rotate_left
      · intro w'
        go_simp
        with_reducible rfl
      rotate_left
      · simp only [Act.put, List.setIfInBounds_toArray, List.set_cons_zero, List.set_cons_succ, i64_w, i32_w]
        rfl
      refine pure_ (i := 2) (N := some 12) (v := ?_) (a' := ?_) #[false, true, true, false, false, false, false, false, false] rfl rfl (by kernel_rfl) (fun _ _ _ h => h) (Or.inl ⟨by rfl, ?_⟩) ?_ ?_
      rotate_left
      · intro w'
        go_simp
        with_reducible rfl
      rotate_left
      · simp only [Act.put, List.setIfInBounds_toArray, List.set_cons_zero, List.set_cons_succ, i64_w, i32_w]
        rfl
      refine pure_ (i := 3) (N := some 13) (v := ?_) (a' := ?_) #[false, true, true, true, false, false, false, false, false] rfl rfl (by kernel_rfl) (fun _ _ _ h => h) (Or.inl ⟨by rfl, ?_⟩) ?_ ?_
      rotate_left
      · intro w'
        go_simp
        with_reducible rfl
      rotate_left
      · simp only [Act.put, List.setIfInBounds_toArray, List.set_cons_zero, List.set_cons_succ, i64_w, i32_w]
        rfl
      have e8 : wrap64 (8 * (i : Int)) = 8 * (i : Int) := by unfold wrap64; omega
      have p8 : 0 ≤ 8 * (i : Int) := by omega
      have q8 : 8 * (i : Int) ≤ 64 := by omega
      refine pure_ (i := 4) (N := some 14) (v := ?_) (a' := ?_) #[false, true, true, true, true, false, false, false, false] rfl rfl (by kernel_rfl) (fun _ _ _ h => h) (Or.inl ⟨by rfl, ?_⟩) ?_ ?_
      rotate_left
      · intro w'
        go_simp
        with_reducible rfl
      rotate_left
      · simp only [Act.put, List.setIfInBounds_toArray, List.set_cons_zero, List.set_cons_succ, i64_w, i32_w]
        rfl
      clear e8 p8 q8
      refine pure_ (i := 5) (N := some 15) (v := ?_) (a' := ?_) #[false, true, true, true, true, true, false, false, false] rfl rfl (by kernel_rfl) (fun _ _ _ h => h) (Or.inl ⟨by rfl, ?_⟩) ?_ ?_
      rotate_left
      · intro w'
        go_simp
        with_reducible rfl
      rotate_left
      · simp only [Act.put, List.setIfInBounds_toArray, List.set_cons_zero, List.set_cons_succ, i64_w, i32_w]
        rfl
      have eb : IntKind.u8.wrap (x / 2 ^ (8 * (i : Int)).toNat) = putByte x i := rfl
      rw [eb]
      clear eb
      refine take_ (i := 0) (N := some 10) (v := ?_) (a' := ?_) #[true, true, true, true, true, true, false, false, false] rfl rfl (by kernel_rfl) (fun _ _ _ h => h) (Or.inl ⟨by rfl, ?_⟩) hHeld ?_ ?_
      rotate_left
      · intro w' s0
        go_simp
        with_reducible rfl
      rotate_left
      · simp only [Act.put, List.setIfInBounds_toArray, List.set_cons_zero, List.set_cons_succ, i64_w, i32_w]
        rfl
      refine one_ (i := 6) (N := some 16) #[true, true, true, true, true, true, true, false, false] rfl rfl (by kernel_rfl) (by decide) (fun K hK => ?_)
      refine event_step (w1 := w1.alloc (.cells #[.int .u8 (putByte x i)] 5)) (v := .slice (some ⟨w1.heap.size, 0, none⟩) 1 1) (by rfl) ?_ ?_
      · go_simp
      refine hK.out _ _ ((World.cell?_alloc_lt _ _ _ (World.block_lt_of_cell? _ _ hHeld)).trans hHeld) (fun hHeld => ?_)
      clear hK K
      refine one_ (i := 7) (N := some 17) #[true, true, true, true, true, true, true, true, false] rfl rfl (by kernel_rfl) (by decide) (fun K hK => ?_)
      refine Kd.R_append_step (Kd.int .u8) (w0 := w0) w0.heap.size (by rfl) (.tmp 10) (.tmp 16) 24 5 (.int .u8 0) 1 rfl Try.underlying24 info5 rfl (by decide) (by omega) u (l ++ putBytes x i) (putByte x i) [.int .u8 (putByte x i)] (fun _ => True) (fun _ => False) rfl rfl rfl (fun _ hk => hk.elim) (fun _ _ => trivial) HR.out HB.out HB.out.size (by rw [List.length_append, putBytes_len]; omega) ?_
      intro v1 w2 ho hb hg hat
      have bk2 := blk_grown BK.out hg (Kd.R_ne HR.out BK.out (by decide))
      have hk2 : Kept w w2 (fun k_ => k_ = bb ∨ some k_ = v.ownBlock) := Kept.of_grown hg HK.out (fun k e => by
        rcases HU.out k e with h | h
        · exact .inl (.inr h)
        · exact .inr h)
      have hu2 : ∀ k_, v1.ownBlock = some k_ → some k_ = v.ownBlock ∨ w.heap.size ≤ k_ := by
        intro k_ hk
        rcases hat with h | ⟨b, h, hb2⟩
        · exact HU.out k_ (h.symm.trans hk)
        · rw [h] at hk
          injection hk with hk
          have := HK.out.1
          exact .inr (by omega)
      rw [List.append_assoc, ← putBytes_succ] at ho
      obtain ⟨L, hL⟩ : ∃ L, L = l ++ putBytes x (i + 1) := ⟨_, rfl⟩
      rw [← hL] at ho
      have HL := Aside0.mk hL
      clear hL
      have ho3 := Kd.R_far (p := ⟨bb, 0, none⟩) (Kd.R_types ho bk2 (by decide)) (fun _ hk => hk.2) v1
      obtain ⟨A1, c1, e1⟩ := Kd.R_slice ho
      subst e1
      have BK2 := Aside0.mk bk2
      have HK2 := Aside0.mk hk2
      have HU2 := Aside0.mk hu2
      have HR2 := Aside0.mk ho3
      have HB2 := Aside0.mk hb
      clear hHeld bk2 hk2 hu2 ho3 hb hat hg ho
      refine hK.out _ _ ((blk_cell BK2.out 0).trans rfl) (fun hHeld => ?_)
      clear hK K
      refine last_ (i := 8) (N := none) #[true, true, true, true, true, true, true, true, true] rfl rfl (by kernel_rfl) (by decide) (fun K hK => ?_)
      have hf := blk_frozen BK2.out 0
      refine skip_ (w1 := ?_) (by rfl) rfl ?_ ?_
      rotate_left
      · go_simp
        rfl
      refine hK.out _ _ ?_
      clear hK K
      refine done_ (by kernel_rfl) ?_
      go_wp2
      go_roundg gk1
      case measure => omega
      case rel => exact ⟨i + 1, _, rfl, ⟨by have := HI.out; omega⟩, HU2, ⟨blk_put BK2.out 0 _ rfl⟩, ⟨by rw [← HL.out]; exact Kd.R_mono HR2.out (fun _ _ => trivial)⟩, ⟨below_set HB2.out hge⟩, ⟨Kept.setCell HK2.out (.inl (.inl rfl)) _⟩⟩
/-- The number in n bytes from a on, as the closure reckons it. -/
def getNum (l : List Int) (a : Nat) : Nat → Int
  | 0 => 0
  | i + 1 => bits .or .u64 (getNum l a i) (IntKind.u64.wrap (IntKind.u64.wrap (rd l ((a : Int) + (i : Int))) * 2 ^ (8 * i)))
set_option maxHeartbeats 800000 in
set_option maxRecDepth 100000 in
theorem get_calls (gb : Nat) (A : Option Addr) (c : Nat) (l : List Int) (a n : Nat) (w : World) (hbk : w.heap[gb]? = some (.cells #[.slice A l.length c] 24 (0, 0)))
    (hr : Kd.C (Kd.int .u8) w A l.length l) (hn : n ≤ 8) (hl : a + n ≤ l.length) (hl2 : l.length = 24) :
    Calls Try.prog 27 #[.int .i64 (a : Int), .int .i64 (n : Int), .pointer (some ⟨gb, 0, none⟩)] w fun e w' => e = .returned (.int .u64 (getNum l a n)) ∧ w' = w := by
  have HBK := Aside0.mk hbk
  have HR := Aside0.mk hr
  clear hr hbk
  have HL := Aside0.mk hl
  have HL2 := Aside0.mk hl2
  clear hl hl2
  go_enter Try.func27, Try.ntmps27
  go_wp2
  go_loopg [6, 7, 9] n (fun kq v6 v7 v9 w' => ∃ (i : Nat) (y : Int), v9 = .int .i64 i ∧ v6 = .int .u64 y ∧ Aside0 (y = getNum l a i) ∧ Aside0 (i + kq = n) ∧ Aside0 (w' = w))
  case atStart => exact ⟨0, 0, rfl, rfl, ⟨rfl⟩, ⟨by omega⟩, ⟨rfl⟩⟩
  case round =>
    obtain ⟨i, y, rfl, rfl, HY, HI, HW⟩ := hrel
    cases gk with
    | zero =>
      have hi := HI.out
      have hge : ¬ (i : Int) < (n : Int) := by omega
      go_wp2
      go_ret
      obtain rfl : i = n := by omega
      exact ⟨by show Ending.returned (.int .u64 y) = _; rw [HY.out], HW.out⟩
    | succ gk1 =>
      have hlt : (i : Int) < (n : Int) := by have := HI.out; omega
      have hi8 : i < 8 := by have := HI.out; omega
      obtain rfl := HW.out
      clear HW
      have hc : wr.cell? ⟨gb, 0, none⟩ = some (.slice A l.length c) := (blk_cell HBK.out 0).trans rfl
      obtain ⟨ad, e, hx⟩ := Kd.at_int HR.out ((a : Int) + i) (by omega) (by have := HL.out; have := HI.out; omega)
      cases e
      obtain ⟨b, hb⟩ : ∃ b, b = rd l ((a : Int) + i) := ⟨_, rfl⟩
      rw [← hb, show ((a : Int) + i).toNat = a + i by omega] at hx
      have Hb := Aside0.mk hb
      clear hb
      have e1 : wrap64 ((a : Int) + i) = (a : Int) + i := by have := HL.out; have := HL2.out; unfold wrap64; omega
      have p1 : 0 ≤ (a : Int) + i := by omega
      have q1 : (a : Int) + i < (l.length : Int) := by have := HL.out; have := HI.out; omega
      have e8 : wrap64 (8 * (i : Int)) = 8 * (i : Int) := by unfold wrap64; omega
      have p8 : 0 ≤ 8 * (i : Int) := by omega
      have q8 : 8 * (i : Int) ≤ 64 := by omega
      go_wp2
      go_roundg gk1
      case measure => omega
      case rel => exact ⟨i + 1, _, by go_num, rfl, ⟨by rw [Hb.out, HY.out]; rfl⟩, ⟨by have := HI.out; omega⟩, ⟨rfl⟩⟩

theorem u64_nonneg (x : Int) : 0 ≤ IntKind.u64.wrap x := by
  simp [IntKind.wrap, IntKind.bits, IntKind.signed]
  omega
/-- What Encode answers: nothing for what is no packet; else the head, the three numbers, the sum's six lowest bytes. -/
def encRow (a0 a1 a2 a3 : Int) : List Int := [72, a0 % 256] ++ putBytes (IntKind.u64.wrap a1) 4 ++ putBytes (IntKind.u64.wrap a2) 8 ++ putBytes (IntKind.u64.wrap a3) 4
def impl_Encode.f (a0 a1 a2 a3 : Int) : Option (List Int) :=
  (impl_PacketOk.f a0 a1 a2 a3).bind fun t => if t = true then ((impl_Sum.f 100 (encRow a0 a1 a2 a3)).bind fun s => some (encRow a0 a1 a2 a3 ++ putBytes (IntKind.u64.wrap s) 6)) else some []
set_option maxHeartbeats 1600000 in
set_option maxRecDepth 100000 in
theorem impl_Encode.calls (a0_0 : Int) (a0_1 : Int) (a0_2 : Int) (a0_3 : Int) (r : List Int) (w : World) (h : impl_Encode.f a0_0 a0_1 a0_2 a0_3 = some r) :
    Calls Try.prog 8 #[.agg #[.int .i64 a0_0, .int .i64 a0_1, .int .i64 a0_2, .int .i64 a0_3]] w fun e w' => ∃ v0_ : Value, e = .returned (v0_) ∧ Kd.R (Kd.int .u8) 5 w' w.heap.size (fun _ => True) v0_ r ∧ Below w.heap.size w w' := by
  have hu26 := Try.underlying26
  have HB := Aside0.mk (Below.refl w.heap.size w)
  unfold impl_Encode.f at h
  have h0 := Option.bind_eq_some_iff.mp h
  clear h
  obtain ⟨t, ht, h⟩ := h0
  have HT := Aside0.mk ht
  have H := Aside0.mk h
  clear h ht
  cases t with
  | false =>
    have hr : r = [] := by
      have h := H.out
      rw [if_neg (by decide)] at h
      exact (Option.some.inj h).symm
    subst hr
    go_enter Try.func8, Try.ntmps8
    go_wp2_with (first | ((with_reducible refine gate_dst (N := 1) rfl ?_); refine box_event ?hg (N := 1) ?hd (cs := #[.int .i64 a0_0, .int .i64 a0_1, .int .i64 a0_2, .int .i64 a0_3]) (t := 26) ?hr ?_; (case hd => rfl); (case hg => rfl); (case hr => first | (go_simp; done) | (go_simp; rfl)); intro gp hg w1 hbox hb; have HB1 := Aside0.mk hb; have BK := Aside0.mk hbox; have GP := Aside0.mk hg; clear hb hbox hg; have hc0 : w1.cell? ⟨gp, 0, none⟩ = some (.int .i64 a0_0) := (blk_cell BK.out 0).trans rfl; have hc1 : w1.cell? ⟨gp, 1, none⟩ = some (.int .i64 a0_1) := (blk_cell BK.out 1).trans rfl; have hc2 : w1.cell? ⟨gp, 2, none⟩ = some (.int .i64 a0_2) := (blk_cell BK.out 2).trans rfl; have hc3 : w1.cell? ⟨gp, 3, none⟩ = some (.int .i64 a0_3) := (blk_cell BK.out 3).trans rfl) | (go_at_call 21; refine (impl_PacketOk.calls _ _ _ _ _ _ HT.out).mono ?_; rintro e w2 ⟨rfl, hb2⟩; have HB2 := Aside0.mk hb2; clear hb2))
    go_ret
    exact ⟨_, rfl, Kd.R_nil _ _ _ _ _, below_step HB1.out HB2.out⟩
  | true =>
    have h1 := H.out
    rw [if_pos rfl] at h1
    have h2 := Option.bind_eq_some_iff.mp h1
    clear h1
    obtain ⟨s, hs, h1⟩ := h2
    have hr := Option.some.inj h1
    have HS := Aside0.mk hs
    have HE := Aside0.mk hr
    clear h1 hs hr H
    go_enter Try.func8, Try.ntmps8
    go_wp2_with (first | ((with_reducible refine gate_dst (N := 1) rfl ?_); refine box_event ?hg (N := 1) ?hd (cs := #[.int .i64 a0_0, .int .i64 a0_1, .int .i64 a0_2, .int .i64 a0_3]) (t := 26) ?hr ?_; (case hd => rfl); (case hg => rfl); (case hr => first | (go_simp; done) | (go_simp; rfl)); intro gp hg w1 hbox hb; have HB1 := Aside0.mk hb; have BK := Aside0.mk hbox; have GP := Aside0.mk hg; clear hb hbox hg; have hc0 : w1.cell? ⟨gp, 0, none⟩ = some (.int .i64 a0_0) := (blk_cell BK.out 0).trans rfl; have hc1 : w1.cell? ⟨gp, 1, none⟩ = some (.int .i64 a0_1) := (blk_cell BK.out 1).trans rfl; have hc2 : w1.cell? ⟨gp, 2, none⟩ = some (.int .i64 a0_2) := (blk_cell BK.out 2).trans rfl; have hc3 : w1.cell? ⟨gp, 3, none⟩ = some (.int .i64 a0_3) := (blk_cell BK.out 3).trans rfl) | (go_at_call 21; refine (impl_PacketOk.calls _ _ _ _ _ _ HT.out).mono ?_; rintro e w2 ⟨rfl, hb2⟩; have HB2 := Aside0.mk (below_step HB1.out hb2); have BK2 := Aside0.mk (blk_below BK.out hb2); clear hb2 BK hc0 hc1 hc2 hc3; have hc0 : w2.cell? ⟨gp, 0, none⟩ = some (.int .i64 a0_0) := (blk_cell BK2.out 0).trans rfl; have hc1 : w2.cell? ⟨gp, 1, none⟩ = some (.int .i64 a0_1) := (blk_cell BK2.out 1).trans rfl; have hc2 : w2.cell? ⟨gp, 2, none⟩ = some (.int .i64 a0_2) := (blk_cell BK2.out 2).trans rfl; have hc3 : w2.cell? ⟨gp, 3, none⟩ = some (.int .i64 a0_3) := (blk_cell BK2.out 3).trans rfl) | ((with_reducible refine gate_dst (N := 11) rfl ?_); refine Kd.R_lit (Kd.int .u8) (w0 := w) w.heap.size 5 ?hg (N := 11) ?hd (xs := [72, a0_0 % 256]) (inner := [.int .u8 72, .int .u8 (a0_0 % 256)]) (ok := fun _ => True) (okp := fun _ => True) ?hr ?hp (fun _ hk => hk) trivial HB2.out HB2.out.size (by simp) ?_; (case hd => rfl); (case hg => rfl); (case hr => first | (go_simp; done) | (go_simp; rfl)); (case hp => exact (Reps.one (show Kd.M (Kd.int .u8) _ _ _ 72 [.int .u8 72] from rfl) (Reps.one (show Kd.M (Kd.int .u8) _ _ _ (a0_0 % 256) [.int .u8 (a0_0 % 256)] from rfl) (Reps.none _ _)))); intro v3 w3 ho hb hg hnew; have BK3 := Aside0.mk (blk_grown BK2.out hg (by simp)); have HB3 := Aside0.mk hb; obtain ⟨L0, hL0⟩ : ∃ L : List Int, L = [72, a0_0 % 256] := ⟨_, rfl⟩; rw [← hL0] at ho; have HL0 := Aside0.mk hL0; clear hL0; obtain ⟨A3, c3, e3⟩ := Kd.R_slice ho; subst e3; have HR3 := Aside0.mk ho; clear ho hb hg hnew BK2 HB2 hc0 hc1 hc2 hc3) | ((with_reducible refine gate_dst (N := 3) rfl ?_); refine box_event ?hg (N := 3) ?hd (cs := #[.slice none 0 0]) (t := 24) ?hr ?_; (case hd => rfl); (case hg => rfl); (case hr => first | (go_simp; done) | (go_simp; rfl)); intro bb hg w4 hbox hb; have BK4 := Aside0.mk (blk_below BK3.out hb); have HR4 := Aside0.mk (Kd.R_below HR3.out hb); have GB := Aside0.mk (show w.heap.size ≤ bb by rw [hg]; exact HB3.out.size); have HB4 := Aside0.mk (below_step HB3.out hb); have BB4 := Aside0.mk hbox; have NE := Aside0.mk (show gp ≠ bb from blk_ne BK4.out BB4.out (by decide)); clear hb hbox hg BK3 HR3 HB3; have hcb : w4.cell? ⟨bb, 0, none⟩ = some (.slice none 0 0) := (blk_cell BB4.out 0).trans rfl; have hfb := blk_frozen BB4.out 0; have hne := NE.out; have hne2 := NE.out.symm; have hc0 : w4.cell? ⟨gp, 0, none⟩ = some (.int .i64 a0_0) := (blk_cell BK4.out 0).trans rfl; have hc1 : w4.cell? ⟨gp, 1, none⟩ = some (.int .i64 a0_1) := (blk_cell BK4.out 1).trans rfl; have hc2 : w4.cell? ⟨gp, 2, none⟩ = some (.int .i64 a0_2) := (blk_cell BK4.out 2).trans rfl; have hc3 : w4.cell? ⟨gp, 3, none⟩ = some (.int .i64 a0_3) := (blk_cell BK4.out 3).trans rfl))
    generalize hw5 : w4.setCell ⟨bb, 0, none⟩ (.slice A3 L0.length c3) = w5
    have BK5 : Aside0 (w5.heap[gp]? = some (.cells #[.int .i64 a0_0, .int .i64 a0_1, .int .i64 a0_2, .int .i64 a0_3] 26 (0, 0))) := ⟨by rw [← hw5]; exact blk_far BK4.out NE.out _⟩
    have BB5 : Aside0 (w5.heap[bb]? = some (.cells #[.slice A3 L0.length c3] 24 (0, 0))) := ⟨by rw [← hw5]; exact blk_put BB4.out 0 _ rfl⟩
    have HR5 : Aside0 (Kd.R (Kd.int .u8) 5 w5 w.heap.size (fun _ => True) (.slice A3 L0.length c3) L0) := ⟨by rw [← hw5]; exact Kd.R_mono (Kd.R_far (p := ⟨bb, 0, none⟩) (Kd.R_types HR4.out BB4.out (by decide)) (fun _ hk => hk.2) _) (fun _ _ => trivial)⟩
    have HB5 : Aside0 (Below w.heap.size w w5) := ⟨by rw [← hw5]; exact below_set HB4.out GB.out⟩
    have HLL : Aside0 (L0.length = 2) := ⟨by rw [HL0.out]; rfl⟩
    clear hw5 hcb hfb hne2 hc0 hc1 hc2 hc3 BK4 BB4 HR4 HB4
    have NS := Aside0.mk hne
    clear hne
    refine (put_calls bb (.slice A3 L0.length c3) L0 (IntKind.u64.wrap a0_1) 4 w _ HB5.out GB.out BB5.out HR5.out (u64_nonneg _) (by decide) (by have := HLL.out; simp [putBytes_len]; try omega)).mono ?_
    rintro e w6 ⟨rfl, v6, hbb, hro, hbo, hko⟩
    have BK6 := Aside0.mk (blk_kept BK5.out hko (fun h => by rcases h with h | h; exact NS.out h; exact Kd.R_ne HR5.out BK5.out (by decide) h))
    have BB6 := Aside0.mk hbb
    have HR6 := Aside0.mk hro
    have HB6 := Aside0.mk hbo
    clear hbb hro hbo hko BK5 BB5 HR5 HB5
    have hc0 : w6.cell? ⟨gp, 0, none⟩ = some (.int .i64 a0_0) := (blk_cell BK6.out 0).trans rfl
    have hc1 : w6.cell? ⟨gp, 1, none⟩ = some (.int .i64 a0_1) := (blk_cell BK6.out 1).trans rfl
    have hc2 : w6.cell? ⟨gp, 2, none⟩ = some (.int .i64 a0_2) := (blk_cell BK6.out 2).trans rfl
    have hc3 : w6.cell? ⟨gp, 3, none⟩ = some (.int .i64 a0_3) := (blk_cell BK6.out 3).trans rfl
    go_wp2_with (fail)
    clear hc0 hc1 hc2 hc3
    refine (put_calls bb v6 (L0 ++ putBytes (IntKind.u64.wrap a0_1) 4) (IntKind.u64.wrap a0_2) 8 w _ HB6.out GB.out BB6.out HR6.out (u64_nonneg _) (by decide) (by have := HLL.out; simp [putBytes_len]; try omega)).mono ?_
    rintro e w7 ⟨rfl, v7, hbb, hro, hbo, hko⟩
    have BK7 := Aside0.mk (blk_kept BK6.out hko (fun h => by rcases h with h | h; exact NS.out h; exact Kd.R_ne HR6.out BK6.out (by decide) h))
    have BB7 := Aside0.mk hbb
    have HR7 := Aside0.mk hro
    have HB7 := Aside0.mk hbo
    clear hbb hro hbo hko BK6 BB6 HR6 HB6
    have hc0 : w7.cell? ⟨gp, 0, none⟩ = some (.int .i64 a0_0) := (blk_cell BK7.out 0).trans rfl
    have hc1 : w7.cell? ⟨gp, 1, none⟩ = some (.int .i64 a0_1) := (blk_cell BK7.out 1).trans rfl
    have hc2 : w7.cell? ⟨gp, 2, none⟩ = some (.int .i64 a0_2) := (blk_cell BK7.out 2).trans rfl
    have hc3 : w7.cell? ⟨gp, 3, none⟩ = some (.int .i64 a0_3) := (blk_cell BK7.out 3).trans rfl
    go_wp2_with (fail)
    clear hc0 hc1 hc2 hc3
    refine (put_calls bb v7 ((L0 ++ putBytes (IntKind.u64.wrap a0_1) 4) ++ putBytes (IntKind.u64.wrap a0_2) 8) (IntKind.u64.wrap a0_3) 4 w _ HB7.out GB.out BB7.out HR7.out (u64_nonneg _) (by decide) (by have := HLL.out; simp [putBytes_len]; try omega)).mono ?_
    rintro e w8 ⟨rfl, v8, hbb, hro, hbo, hko⟩
    have BK8 := Aside0.mk (blk_kept BK7.out hko (fun h => by rcases h with h | h; exact NS.out h; exact Kd.R_ne HR7.out BK7.out (by decide) h))
    have BB8 := Aside0.mk hbb
    have HR8 := Aside0.mk hro
    have HB8 := Aside0.mk hbo
    clear hbb hro hbo hko BK7 BB7 HR7 HB7
    have hc0 : w8.cell? ⟨gp, 0, none⟩ = some (.int .i64 a0_0) := (blk_cell BK8.out 0).trans rfl
    have hc1 : w8.cell? ⟨gp, 1, none⟩ = some (.int .i64 a0_1) := (blk_cell BK8.out 1).trans rfl
    have hc2 : w8.cell? ⟨gp, 2, none⟩ = some (.int .i64 a0_2) := (blk_cell BK8.out 2).trans rfl
    have hc3 : w8.cell? ⟨gp, 3, none⟩ = some (.int .i64 a0_3) := (blk_cell BK8.out 3).trans rfl
    clear hc0 hc1 hc2 hc3
    obtain ⟨L3, hL3⟩ : ∃ L3 : List Int, L3 = (((L0 ++ putBytes (IntKind.u64.wrap a0_1) 4) ++ putBytes (IntKind.u64.wrap a0_2) 8) ++ putBytes (IntKind.u64.wrap a0_3) 4) := ⟨_, rfl⟩
    have HR := HR8.out
    rw [← hL3] at HR
    obtain ⟨A8, c8, e8⟩ := Kd.R_slice HR
    subst e8
    have HR9 := Aside0.mk HR
    have HL3 := Aside0.mk hL3
    clear HR HR8 hL3
    have hcb : w8.cell? ⟨bb, 0, none⟩ = some (.slice A8 L3.length c8) := (blk_cell BB8.out 0).trans rfl
    go_wp2_with (fail)
    have hcap : L3.length ≤ c8 := (Kd.R_reads' HR9.out).2.1
    have hrow := (Kd.R_reads' HR9.out).2.2
    have hsum : impl_Sum.f 100 L3 = some s := by
      rw [HL3.out, HL0.out]
      exact HS.out
    refine (impl_Sum.calls 100 A8 c8 L3 s _ hrow hcap hsum).mono ?_
    rintro e w9 ⟨rfl, hd⟩
    obtain ⟨nd, hd⟩ := hd.out
    have BB9 : Aside0 (w9.heap[bb]? = some (.cells #[.slice A8 L3.length c8] 24 (0, 0))) := ⟨by rw [hd]; exact BB8.out⟩
    have HRa : Aside0 (Kd.R (Kd.int .u8) 5 w9 w.heap.size (fun _ => True) (.slice A8 L3.length c8) L3) := ⟨by rw [hd]; exact Kd.R_drewN HR9.out nd⟩
    have HB9 : Aside0 (Below w.heap.size w w9) := ⟨by rw [hd]; exact pw_below_drewN HB8.out nd⟩
    have HL9 : Aside0 (L3.length = 18) := ⟨by rw [HL3.out]; simp [putBytes_len, HLL.out]⟩
    clear hd hrow hcap hsum hcb HR9 BB8 HB8
    go_wp2_with (fail)
    refine (put_calls bb (.slice A8 L3.length c8) L3 (IntKind.u64.wrap s) 6 w _ HB9.out GB.out BB9.out HRa.out (u64_nonneg _) (by decide) (by have := HL9.out; omega)).mono ?_
    rintro e w10 ⟨rfl, v10, hbb, hro, hbo, hko⟩
    obtain ⟨L4, hL4⟩ : ∃ L4 : List Int, L4 = L3 ++ putBytes (IntKind.u64.wrap s) 6 := ⟨_, rfl⟩
    rw [← hL4] at hro
    obtain ⟨Ae, ce, ee⟩ := Kd.R_slice hro
    subst ee
    have HRb := Aside0.mk hro
    have HBb := Aside0.mk hbo
    have hcb : w10.cell? ⟨bb, 0, none⟩ = some (.slice Ae L4.length ce) := (blk_cell hbb 0).trans rfl
    have he : L4 = r := by
      rw [hL4, HL3.out, HL0.out]
      exact HE.out
    have HE2 := Aside0.mk he
    clear hbb hro hbo hko hL4 he
    go_wp2_with (fail)
    go_ret
    refine ⟨_, rfl, ?_, HBb.out⟩
    rw [← HE2.out]
    exact HRb.out
end Go.Proofs.Ytbbiloekijjocaa.PAll
