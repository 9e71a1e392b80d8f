/- The function Decode of the program with its closure, by a walk. The row of bytes reads as the list. -/
import Derived.Test.YtbbiloekijjocaaEnca
namespace Go.Proofs.Ytbbiloekijjocaa.PAll
open Go.RowKit Go.Proofs.YtbbiloekijjocaaW.PrintWords Go.Proofs.YtbbiloekijjocaaW.PrintLast Go.Proofs.YtbbiloekijjocaaW.PrintMore
set_option linter.unusedVariables false
set_option linter.unusedSimpArgs false


theorem gen_world {e : Exit} {Q : Exit → Act → World → Prop} {a : Act} {W : World} (h : ∀ w', w' = W → Q e a w') : Q e a W := h W rfl
/-- The packet in 24 bytes, as Decode reckons it ahead of the check. -/
def decTry (l : List Int) : Int × Int × Int × Int := (wrap64 (rd l 1), wrap64 (getNum l 2 4), wrap64 (getNum l 6 8), wrap64 (getNum l 14 4))
def impl_Decode.f (l : List Int) : Option (Int × Int × Int × Int) :=
  if l.length = 24 then ((impl_Encode.f (decTry l).1 (decTry l).2.1 (decTry l).2.2.1 (decTry l).2.2.2).bind fun e => if (strOfNums e).toList = (strOfNums l).toList then some (decTry l) else some (0, 0, 0, 0)) else some (0, 0, 0, 0)
set_option maxHeartbeats 1600000 in
set_option maxRecDepth 100000 in
theorem impl_Decode.calls (A0 : Option Addr) (c0 : Nat) (l0 : List Int) (r1 : Int) (r2 : Int) (r3 : Int) (r4 : Int) (w : World) (hr0 : Kd.C (Kd.int .u8) w A0 l0.length l0) (hc0 : l0.length ≤ c0) (h : impl_Decode.f l0 = some (r1, r2, r3, r4)) :
    Calls Try.prog 13 #[.slice A0 l0.length c0] w fun e w' => e = .returned (.agg #[.int .i64 r1, .int .i64 r2, .int .i64 r3, .int .i64 r4]) ∧ Below w.heap.size w w' := by
  have hu26 := Try.underlying26
  have HB := Aside0.mk (Below.refl w.heap.size w)
  have HR := Aside0.mk hr0
  have HC := Aside0.mk hc0
  clear hr0 hc0
  unfold impl_Decode.f at h
  by_cases hl : l0.length = 24
  · rw [if_pos hl] at h
    have H := Aside0.mk h
    have HL := Aside0.mk hl
    clear h hl
    have hb : (((l0.length : Nat) : Int) != 24) = false := by rw [HL.out]; rfl
    go_enter Try.func13, Try.ntmps13
    go_wp2_with (first | ((with_reducible refine gate_dst (N := 1) rfl ?_); refine box_event ?hg (N := 1) ?hd (cs := #[.slice A0 l0.length c0]) (t := 24) ?hr ?_; (case hd => rfl); (case hg => rfl); (case hr => first | (go_simp; done) | (go_simp; rfl)); intro gb hg w1 hbox hb; have HB1 := Aside0.mk hb; have BK1 := Aside0.mk hbox; have GB := Aside0.mk (show w.heap.size ≤ gb by rw [hg]; exact Nat.le_refl _); clear hb hbox hg; have hcb : w1.cell? ⟨gb, 0, none⟩ = some (.slice A0 l0.length c0) := (blk_cell BK1.out 0).trans rfl) | ((with_reducible refine gate_dst (N := 2) rfl ?_); refine box_event ?hg (N := 2) ?hd (cs := #[.int .i64 0, .int .i64 0, .int .i64 0, .int .i64 0]) (t := 26) ?hr ?_; (case hd => rfl); (case hg => rfl); (case hr => first | (go_simp; done) | (go_simp; rfl)); intro gr hg w2 hbox hb; have HB2 := Aside0.mk (below_step HB1.out hb); have BR2 := Aside0.mk hbox; have BK2 := Aside0.mk (blk_below BK1.out hb); have GR := Aside0.mk (show w.heap.size ≤ gr by rw [hg]; exact HB1.out.size); have NE := Aside0.mk (show gb ≠ gr by rw [hg]; exact Nat.ne_of_lt (blk_lt BK1.out)); clear hb hbox hg BK1 hcb; have hcb : w2.cell? ⟨gb, 0, none⟩ = some (.slice A0 l0.length c0) := (blk_cell BK2.out 0).trans rfl))
    obtain ⟨ad, ead, hx⟩ := Kd.at_int HR.out 1 (by decide) (by rw [HL.out]; decide)
    cases ead
    have ea : ad.add (1 : Int).toNat = ⟨ad.block, ad.off + 1, none⟩ := by
      exact (add_field ad 0 1 (by decide)).trans (by unfold Addr.add; split <;> simp_all)
    have hx2 : w2.cell? ⟨ad.block, ad.off + 1, none⟩ = some (.int .u8 (rd l0 1)) := by
      rw [← ea]
      exact (HB2.out.cell (World.block_lt_of_cell? w _ hx)).trans hx
    have q1 : ((1 : Int) < (l0.length : Int)) = True := eq_true (by rw [HL.out]; decide)
    have q2 : (1 < l0.length) = True := eq_true (by rw [HL.out]; decide)
    refine start_ (n := 16) (S := fun w' => w'.cell? ⟨gb, 0, none⟩ = some (.slice (some ad) l0.length c0) ∧ w'.cell? ⟨ad.block, ad.off + 1, none⟩ = some (.int .u8 (rd l0 1))) (ds := [15]) #[false, false, false, false, false, false, false, false, false, false, false, false, false, false, false, false] (by kernel_rfl) rfl rfl ⟨hcb, hx2⟩ (fun hHeld => ?_)
    clear hx2 hx hcb
    replace BK2 := Aside0.mk (blk_drew BK2.out)
    replace BR2 := Aside0.mk (blk_drew BR2.out)
    replace HB2 := Aside0.mk (below_drew1 HB2.out)
    generalize w2.drew = w3 at BK2 BR2 HB2 hHeld ⊢
    refine pure_ (i := 4) (N := some 14) (v := ?_) (a' := ?_) #[false, false, false, false, true, false, false, false, false, false, false, false, false, false, false, false] rfl rfl (by kernel_rfl) (fun _ _ _ h => h) (Or.inl ⟨by rfl, ?_⟩) ?_ ?_
    rotate_left
    · intro w'
      go_simp
      with_reducible rfl
    rotate_left
    · simp only [Act.put, List.setIfInBounds_toArray, List.set_cons_zero, List.set_cons_succ, i64_w, i32_w]
      rfl
    refine pure_ (i := 7) (N := some 17) (v := ?_) (a' := ?_) #[false, false, false, false, true, false, false, true, false, false, false, false, false, false, false, false] rfl rfl (by kernel_rfl) (fun _ _ _ h => h) (Or.inl ⟨by rfl, ?_⟩) ?_ ?_
    rotate_left
    · intro w'
      go_simp
      with_reducible rfl
    rotate_left
    · simp only [Act.put, List.setIfInBounds_toArray, List.set_cons_zero, List.set_cons_succ, i64_w, i32_w]
      rfl
    refine pure_ (i := 10) (N := some 20) (v := ?_) (a' := ?_) #[false, false, false, false, true, false, false, true, false, false, true, false, false, false, false, false] rfl rfl (by kernel_rfl) (fun _ _ _ h => h) (Or.inl ⟨by rfl, ?_⟩) ?_ ?_
    rotate_left
    · intro w'
      go_simp
      with_reducible rfl
    rotate_left
    · simp only [Act.put, List.setIfInBounds_toArray, List.set_cons_zero, List.set_cons_succ, i64_w, i32_w]
      rfl
    refine take_ (i := 0) (N := some 10) (v := ?_) (a' := ?_) #[true, false, false, false, true, false, false, true, false, false, true, false, false, false, false, false] rfl rfl (by kernel_rfl) (fun _ _ _ h => h) (Or.inl ⟨by rfl, ?_⟩) hHeld ?_ ?_
    rotate_left
    · rintro w' ⟨s0, s1⟩
      go_simp
      with_reducible rfl
    rotate_left
    · simp only [Act.put, List.setIfInBounds_toArray, List.set_cons_zero, List.set_cons_succ, i64_w, i32_w]
      rfl
    refine pure_ (i := 1) (N := some 11) (v := ?_) (a' := ?_) #[true, true, false, false, true, false, false, true, false, false, true, false, false, false, false, false] rfl rfl (by kernel_rfl) (fun _ _ _ h => h) (Or.inl ⟨by rfl, ?_⟩) ?_ ?_
    rotate_left
    · intro w'
      go_simp
      with_reducible rfl
    rotate_left
    · simp only [Act.put, List.setIfInBounds_toArray, List.set_cons_zero, List.set_cons_succ, i64_w, i32_w]
      rfl
    refine take_ (i := 2) (N := some 12) (v := ?_) (a' := ?_) #[true, true, true, false, true, false, false, true, false, false, true, false, false, false, false, false] rfl rfl (by kernel_rfl) (fun _ _ _ h => h) (Or.inl ⟨by rfl, ?_⟩) hHeld ?_ ?_
    rotate_left
    · rintro w' ⟨s0, s1⟩
      go_simp
      with_reducible rfl
    rotate_left
    · simp only [Act.put, List.setIfInBounds_toArray, List.set_cons_zero, List.set_cons_succ, i64_w, i32_w]
      rfl
    refine pure_ (i := 3) (N := some 13) (v := ?_) (a' := ?_) #[true, true, true, true, true, false, false, true, false, false, true, false, false, false, false, false] rfl rfl (by kernel_rfl) (fun _ _ _ h => h) (Or.inl ⟨by rfl, ?_⟩) ?_ ?_
    rotate_left
    · intro w'
      go_simp
      with_reducible rfl
    rotate_left
    · simp only [Act.put, List.setIfInBounds_toArray, List.set_cons_zero, List.set_cons_succ, i64_w, i32_w]
      rfl
    have BK := BK2
    have BR := BR2
    have HB0 := HB
    clear HB
    have HB := HB2
    clear BK2 BR2 HB2
    refine join_ (σ := Nat) 1 #[true, true, true, true, true, true, true, true, true, true, true, true, true, true, true, false] (fun s_ => [(15, .int .u64 (getNum l0 2 4)), (16, .int .i64 (wrap64 (getNum l0 2 4))), (18, .int .u64 (getNum l0 6 8)), (19, .int .i64 (wrap64 (getNum l0 6 8))), (21, .int .u64 (getNum l0 14 4)), (22, .int .i64 (wrap64 (getNum l0 14 4))), (23, .agg #[.int .i64 (wrap64 (rd l0 1)), .int .i64 (wrap64 (getNum l0 2 4)), .int .i64 (wrap64 (getNum l0 6 8)), .int .i64 (wrap64 (getNum l0 14 4))]), (4, .pointer (some ⟨s_, 0, none⟩))]) (fun s_ w' => (w'.cell? ⟨gb, 0, none⟩ = some (.slice (some ad) l0.length c0) ∧ w'.cell? ⟨ad.block, ad.off + 1, none⟩ = some (.int .u8 (rd l0 1))) ∧ w'.heap[s_]? = some (.cells #[.int .i64 0, .int .i64 0, .int .i64 0, .int .i64 0] 26 (0, 0)) ∧ w.heap.size ≤ s_ ∧ gr ≠ s_ ∧ gb ≠ s_ ∧ w'.heap[gb]? = some (.cells #[.slice (some ad) l0.length c0] 24 (0, 0)) ∧ w'.heap[gr]? = some (.cells #[.int .i64 0, .int .i64 0, .int .i64 0, .int .i64 0] 26 (0, 0)) ∧ Below w.heap.size w w') ?_ ?_
    rotate_left
    · intro hCont
      refine two_ (i := 5) (j := 14) (Ni := some 15) (Nj := some 4) #[true, true, true, true, true, true, false, true, false, false, true, false, false, false, false, false] #[true, true, true, true, true, false, false, true, false, false, true, false, false, false, true, false] rfl rfl rfl rfl (by kernel_rfl) (by decide) (by decide) (fun K hK => ?_) (fun K hK => ?_)
      · skip
        refine call_ 27 #[.int .i64 2, .int .i64 4, .pointer (some ⟨gb, 0, none⟩)] (by rfl) rfl ?_ ?_
        · have he := enters_ Try.func27 (by kernel_rfl) rfl #[.int .i64 2, .int .i64 4, .pointer (some ⟨gb, 0, none⟩)] (w3)
          unfold execOp
          simp [resolve, Deferred.ofValue, invoke, Act.eval, he]
        refine (get_calls gb (some ad) c0 l0 2 4 _ BK.out (Kd.C_below HR.out HB.out) (by decide) (by rw [HL.out]; decide) HL.out).mono ?_
        rintro e w9 ⟨rfl, hw⟩
        have hw2 : w3 = w9 := hw.symm
        subst hw2
        refine ⟨_, rfl, ?_⟩
        refine hK.out _ _ hHeld (fun hHeld => ?_)
        clear hK K
        refine norm_ (a' := ?_) ?_ ?_
        rotate_left
        · show Act.put _ (some 15) _ = _
          simp only [Act.put, List.setIfInBounds_toArray, List.set_cons_zero, List.set_cons_succ, i64_w, i32_w]
          rfl
        refine pure_ (i := 6) (N := some 16) (v := ?_) (a' := ?_) #[true, true, true, true, true, true, true, true, false, false, true, false, false, false, false, false] rfl rfl (by kernel_rfl) (fun _ _ _ h => h) (Or.inl ⟨by rfl, ?_⟩) ?_ ?_
        rotate_left
        · intro w'
          go_simp
          with_reducible rfl
        rotate_left
        · simp only [Act.put, List.setIfInBounds_toArray, List.set_cons_zero, List.set_cons_succ, i64_w, i32_w]
          rfl
        refine two_ (i := 8) (j := 14) (Ni := some 18) (Nj := some 4) #[true, true, true, true, true, true, true, true, true, false, true, false, false, false, false, false] #[true, true, true, true, true, true, true, true, false, false, true, false, false, false, true, false] rfl rfl rfl rfl (by kernel_rfl) (by decide) (by decide) (fun K hK => ?_) (fun K hK => ?_)
        · skip
          refine call_ 27 #[.int .i64 6, .int .i64 8, .pointer (some ⟨gb, 0, none⟩)] (by rfl) rfl ?_ ?_
          · have he := enters_ Try.func27 (by kernel_rfl) rfl #[.int .i64 6, .int .i64 8, .pointer (some ⟨gb, 0, none⟩)] (w3)
            unfold execOp
            simp [resolve, Deferred.ofValue, invoke, Act.eval, he]
          refine (get_calls gb (some ad) c0 l0 6 8 _ BK.out (Kd.C_below HR.out HB.out) (by decide) (by rw [HL.out]; decide) HL.out).mono ?_
          rintro e w9 ⟨rfl, hw⟩
          have hw2 : w3 = w9 := hw.symm
          subst hw2
          refine ⟨_, rfl, ?_⟩
          refine hK.out _ _ hHeld (fun hHeld => ?_)
          clear hK K
          refine norm_ (a' := ?_) ?_ ?_
          rotate_left
          · show Act.put _ (some 18) _ = _
            simp only [Act.put, List.setIfInBounds_toArray, List.set_cons_zero, List.set_cons_succ, i64_w, i32_w]
            rfl
          refine pure_ (i := 9) (N := some 19) (v := ?_) (a' := ?_) #[true, true, true, true, true, true, true, true, true, true, true, false, false, false, false, false] rfl rfl (by kernel_rfl) (fun _ _ _ h => h) (Or.inl ⟨by rfl, ?_⟩) ?_ ?_
          rotate_left
          · intro w'
            go_simp
            with_reducible rfl
          rotate_left
          · simp only [Act.put, List.setIfInBounds_toArray, List.set_cons_zero, List.set_cons_succ, i64_w, i32_w]
            rfl
          refine two_ (i := 11) (j := 14) (Ni := some 21) (Nj := some 4) #[true, true, true, true, true, true, true, true, true, true, true, true, false, false, false, false] #[true, true, true, true, true, true, true, true, true, true, true, false, false, false, true, false] rfl rfl rfl rfl (by kernel_rfl) (by decide) (by decide) (fun K hK => ?_) (fun K hK => ?_)
          · skip
            refine call_ 27 #[.int .i64 14, .int .i64 4, .pointer (some ⟨gb, 0, none⟩)] (by rfl) rfl ?_ ?_
            · have he := enters_ Try.func27 (by kernel_rfl) rfl #[.int .i64 14, .int .i64 4, .pointer (some ⟨gb, 0, none⟩)] (w3)
              unfold execOp
              simp [resolve, Deferred.ofValue, invoke, Act.eval, he]
            refine (get_calls gb (some ad) c0 l0 14 4 _ BK.out (Kd.C_below HR.out HB.out) (by decide) (by rw [HL.out]; decide) HL.out).mono ?_
            rintro e w9 ⟨rfl, hw⟩
            have hw2 : w3 = w9 := hw.symm
            subst hw2
            refine ⟨_, rfl, ?_⟩
            refine hK.out _ _ hHeld (fun hHeld => ?_)
            clear hK K
            refine norm_ (a' := ?_) ?_ ?_
            rotate_left
            · show Act.put _ (some 21) _ = _
              simp only [Act.put, List.setIfInBounds_toArray, List.set_cons_zero, List.set_cons_succ, i64_w, i32_w]
              rfl
            refine pure_ (i := 12) (N := some 22) (v := ?_) (a' := ?_) #[true, true, true, true, true, true, true, true, true, true, true, true, true, false, false, false] rfl rfl (by kernel_rfl) (fun _ _ _ h => h) (Or.inl ⟨by rfl, ?_⟩) ?_ ?_
            rotate_left
            · intro w'
              go_simp
              with_reducible rfl
            rotate_left
            · simp only [Act.put, List.setIfInBounds_toArray, List.set_cons_zero, List.set_cons_succ, i64_w, i32_w]
              rfl
            refine pure_ (i := 13) (N := some 23) (v := ?_) (a' := ?_) #[true, true, true, true, true, true, true, true, true, true, true, true, true, true, false, false] rfl rfl (by kernel_rfl) (fun _ _ _ h => h) (Or.inl ⟨by rfl, ?_⟩) ?_ ?_
            rotate_left
            · intro w'
              go_simp
              with_reducible rfl
            rotate_left
            · simp only [Act.put, List.setIfInBounds_toArray, List.set_cons_zero, List.set_cons_succ, i64_w, i32_w]
              rfl
            refine one_ (i := 14) (N := some 4) #[true, true, true, true, true, true, true, true, true, true, true, true, true, true, true, false] rfl rfl (by kernel_rfl) (by decide) (fun K hK => ?_)
            refine event_step (w1 := (w3).alloc (.cells #[.int .i64 0, .int .i64 0, .int .i64 0, .int .i64 0] 26)) (v := .pointer (some ⟨(w3).heap.size, 0, none⟩)) (by rfl) ?_ ?_
            · go_simp
            refine hK.out _ _ ⟨(World.cell?_alloc_lt _ _ _ (World.block_lt_of_cell? _ _ hHeld.1)).trans hHeld.1, (World.cell?_alloc_lt _ _ _ (World.block_lt_of_cell? _ _ hHeld.2)).trans hHeld.2⟩ (fun hHeld => ?_)
            clear hK K
            have HQ := Aside0.mk (show ((w3).alloc (.cells #[.int .i64 0, .int .i64 0, .int .i64 0, .int .i64 0] 26)).heap[(w3).heap.size]? = some (.cells #[.int .i64 0, .int .i64 0, .int .i64 0, .int .i64 0] 26 (0, 0)) from blk_new _ _)
            have HG := Aside0.mk (show w.heap.size ≤ (w3).heap.size from HB.out.size)
            have HN := Aside0.mk (show gr ≠ (w3).heap.size from Nat.ne_of_lt (blk_lt BR.out))
            have HM := Aside0.mk (show gb ≠ (w3).heap.size from Nat.ne_of_lt (blk_lt BK.out))
            replace BK := Aside0.mk (blk_alloc BK.out (.cells #[.int .i64 0, .int .i64 0, .int .i64 0, .int .i64 0] 26))
            replace BR := Aside0.mk (blk_alloc BR.out (.cells #[.int .i64 0, .int .i64 0, .int .i64 0, .int .i64 0] 26))
            replace HB := Aside0.mk (below_alloc HB.out (.cells #[.int .i64 0, .int .i64 0, .int .i64 0, .int .i64 0] 26))
            refine norm_ (a' := ?_) ?_ ?_
            rotate_left
            · show Act.put _ (some 4) _ = _
              simp only [Act.put, List.setIfInBounds_toArray, List.set_cons_zero, List.set_cons_succ, i64_w, i32_w]
              rfl
            exact norm_ (by simp only [putAll, Act.put, List.setIfInBounds_toArray, List.set_cons_zero, List.set_cons_succ]) (hCont w3.heap.size _ ⟨hHeld, HQ.out, HG.out, HN.out, HM.out, BK.out, BR.out, HB.out⟩)
          · skip
            refine event_step (w1 := (w3).alloc (.cells #[.int .i64 0, .int .i64 0, .int .i64 0, .int .i64 0] 26)) (v := .pointer (some ⟨(w3).heap.size, 0, none⟩)) (by rfl) ?_ ?_
            · go_simp
            refine hK.out _ _ ⟨(World.cell?_alloc_lt _ _ _ (World.block_lt_of_cell? _ _ hHeld.1)).trans hHeld.1, (World.cell?_alloc_lt _ _ _ (World.block_lt_of_cell? _ _ hHeld.2)).trans hHeld.2⟩ (fun hHeld => ?_)
            clear hK K
            have HQ := Aside0.mk (show ((w3).alloc (.cells #[.int .i64 0, .int .i64 0, .int .i64 0, .int .i64 0] 26)).heap[(w3).heap.size]? = some (.cells #[.int .i64 0, .int .i64 0, .int .i64 0, .int .i64 0] 26 (0, 0)) from blk_new _ _)
            have HG := Aside0.mk (show w.heap.size ≤ (w3).heap.size from HB.out.size)
            have HN := Aside0.mk (show gr ≠ (w3).heap.size from Nat.ne_of_lt (blk_lt BR.out))
            have HM := Aside0.mk (show gb ≠ (w3).heap.size from Nat.ne_of_lt (blk_lt BK.out))
            replace BK := Aside0.mk (blk_alloc BK.out (.cells #[.int .i64 0, .int .i64 0, .int .i64 0, .int .i64 0] 26))
            replace BR := Aside0.mk (blk_alloc BR.out (.cells #[.int .i64 0, .int .i64 0, .int .i64 0, .int .i64 0] 26))
            replace HB := Aside0.mk (below_alloc HB.out (.cells #[.int .i64 0, .int .i64 0, .int .i64 0, .int .i64 0] 26))
            refine norm_ (a' := ?_) ?_ ?_
            rotate_left
            · show Act.put _ (some 4) _ = _
              simp only [Act.put, List.setIfInBounds_toArray, List.set_cons_zero, List.set_cons_succ, i64_w, i32_w]
              rfl
            refine one_ (i := 11) (N := some 21) #[true, true, true, true, true, true, true, true, true, true, true, true, false, false, true, false] rfl rfl (by kernel_rfl) (by decide) (fun K hK => ?_)
            refine call_ 27 #[.int .i64 14, .int .i64 4, .pointer (some ⟨gb, 0, none⟩)] (by rfl) rfl ?_ ?_
            · have he := enters_ Try.func27 (by kernel_rfl) rfl #[.int .i64 14, .int .i64 4, .pointer (some ⟨gb, 0, none⟩)] (w3.alloc (.cells #[.int .i64 0, .int .i64 0, .int .i64 0, .int .i64 0] 26))
              unfold execOp
              simp [resolve, Deferred.ofValue, invoke, Act.eval, he]
            refine (get_calls gb (some ad) c0 l0 14 4 _ BK.out (Kd.C_below HR.out HB.out) (by decide) (by rw [HL.out]; decide) HL.out).mono ?_
            rintro e w9 ⟨rfl, hw⟩
            have hw2 : w3.alloc (.cells #[.int .i64 0, .int .i64 0, .int .i64 0, .int .i64 0] 26) = w9 := hw.symm
            subst hw2
            refine ⟨_, rfl, ?_⟩
            refine hK.out _ _ hHeld (fun hHeld => ?_)
            clear hK K
            refine norm_ (a' := ?_) ?_ ?_
            rotate_left
            · show Act.put _ (some 21) _ = _
              simp only [Act.put, List.setIfInBounds_toArray, List.set_cons_zero, List.set_cons_succ, i64_w, i32_w]
              rfl
            refine pure_ (i := 12) (N := some 22) (v := ?_) (a' := ?_) #[true, true, true, true, true, true, true, true, true, true, true, true, true, false, true, false] rfl rfl (by kernel_rfl) (fun _ _ _ h => h) (Or.inl ⟨by rfl, ?_⟩) ?_ ?_
            rotate_left
            · intro w'
              go_simp
              with_reducible rfl
            rotate_left
            · simp only [Act.put, List.setIfInBounds_toArray, List.set_cons_zero, List.set_cons_succ, i64_w, i32_w]
              rfl
            refine pure_ (i := 13) (N := some 23) (v := ?_) (a' := ?_) #[true, true, true, true, true, true, true, true, true, true, true, true, true, true, true, false] rfl rfl (by kernel_rfl) (fun _ _ _ h => h) (Or.inl ⟨by rfl, ?_⟩) ?_ ?_
            rotate_left
            · intro w'
              go_simp
              with_reducible rfl
            rotate_left
            · simp only [Act.put, List.setIfInBounds_toArray, List.set_cons_zero, List.set_cons_succ, i64_w, i32_w]
              rfl
            exact norm_ (by simp only [putAll, Act.put, List.setIfInBounds_toArray, List.set_cons_zero, List.set_cons_succ]) (hCont w3.heap.size _ ⟨hHeld, HQ.out, HG.out, HN.out, HM.out, BK.out, BR.out, HB.out⟩)
        · skip
          refine event_step (w1 := (w3).alloc (.cells #[.int .i64 0, .int .i64 0, .int .i64 0, .int .i64 0] 26)) (v := .pointer (some ⟨(w3).heap.size, 0, none⟩)) (by rfl) ?_ ?_
          · go_simp
          refine hK.out _ _ ⟨(World.cell?_alloc_lt _ _ _ (World.block_lt_of_cell? _ _ hHeld.1)).trans hHeld.1, (World.cell?_alloc_lt _ _ _ (World.block_lt_of_cell? _ _ hHeld.2)).trans hHeld.2⟩ (fun hHeld => ?_)
          clear hK K
          have HQ := Aside0.mk (show ((w3).alloc (.cells #[.int .i64 0, .int .i64 0, .int .i64 0, .int .i64 0] 26)).heap[(w3).heap.size]? = some (.cells #[.int .i64 0, .int .i64 0, .int .i64 0, .int .i64 0] 26 (0, 0)) from blk_new _ _)
          have HG := Aside0.mk (show w.heap.size ≤ (w3).heap.size from HB.out.size)
          have HN := Aside0.mk (show gr ≠ (w3).heap.size from Nat.ne_of_lt (blk_lt BR.out))
          have HM := Aside0.mk (show gb ≠ (w3).heap.size from Nat.ne_of_lt (blk_lt BK.out))
          replace BK := Aside0.mk (blk_alloc BK.out (.cells #[.int .i64 0, .int .i64 0, .int .i64 0, .int .i64 0] 26))
          replace BR := Aside0.mk (blk_alloc BR.out (.cells #[.int .i64 0, .int .i64 0, .int .i64 0, .int .i64 0] 26))
          replace HB := Aside0.mk (below_alloc HB.out (.cells #[.int .i64 0, .int .i64 0, .int .i64 0, .int .i64 0] 26))
          refine norm_ (a' := ?_) ?_ ?_
          rotate_left
          · show Act.put _ (some 4) _ = _
            simp only [Act.put, List.setIfInBounds_toArray, List.set_cons_zero, List.set_cons_succ, i64_w, i32_w]
            rfl
          refine one_ (i := 8) (N := some 18) #[true, true, true, true, true, true, true, true, true, false, true, false, false, false, true, false] rfl rfl (by kernel_rfl) (by decide) (fun K hK => ?_)
          refine call_ 27 #[.int .i64 6, .int .i64 8, .pointer (some ⟨gb, 0, none⟩)] (by rfl) rfl ?_ ?_
          · have he := enters_ Try.func27 (by kernel_rfl) rfl #[.int .i64 6, .int .i64 8, .pointer (some ⟨gb, 0, none⟩)] (w3.alloc (.cells #[.int .i64 0, .int .i64 0, .int .i64 0, .int .i64 0] 26))
            unfold execOp
            simp [resolve, Deferred.ofValue, invoke, Act.eval, he]
          refine (get_calls gb (some ad) c0 l0 6 8 _ BK.out (Kd.C_below HR.out HB.out) (by decide) (by rw [HL.out]; decide) HL.out).mono ?_
          rintro e w9 ⟨rfl, hw⟩
          have hw2 : w3.alloc (.cells #[.int .i64 0, .int .i64 0, .int .i64 0, .int .i64 0] 26) = w9 := hw.symm
          subst hw2
          refine ⟨_, rfl, ?_⟩
          refine hK.out _ _ hHeld (fun hHeld => ?_)
          clear hK K
          refine norm_ (a' := ?_) ?_ ?_
          rotate_left
          · show Act.put _ (some 18) _ = _
            simp only [Act.put, List.setIfInBounds_toArray, List.set_cons_zero, List.set_cons_succ, i64_w, i32_w]
            rfl
          refine pure_ (i := 9) (N := some 19) (v := ?_) (a' := ?_) #[true, true, true, true, true, true, true, true, true, true, true, false, false, false, true, false] rfl rfl (by kernel_rfl) (fun _ _ _ h => h) (Or.inl ⟨by rfl, ?_⟩) ?_ ?_
          rotate_left
          · intro w'
            go_simp
            with_reducible rfl
          rotate_left
          · simp only [Act.put, List.setIfInBounds_toArray, List.set_cons_zero, List.set_cons_succ, i64_w, i32_w]
            rfl
          refine one_ (i := 11) (N := some 21) #[true, true, true, true, true, true, true, true, true, true, true, true, false, false, true, false] rfl rfl (by kernel_rfl) (by decide) (fun K hK => ?_)
          refine call_ 27 #[.int .i64 14, .int .i64 4, .pointer (some ⟨gb, 0, none⟩)] (by rfl) rfl ?_ ?_
          · have he := enters_ Try.func27 (by kernel_rfl) rfl #[.int .i64 14, .int .i64 4, .pointer (some ⟨gb, 0, none⟩)] (w3.alloc (.cells #[.int .i64 0, .int .i64 0, .int .i64 0, .int .i64 0] 26))
            unfold execOp
            simp [resolve, Deferred.ofValue, invoke, Act.eval, he]
          refine (get_calls gb (some ad) c0 l0 14 4 _ BK.out (Kd.C_below HR.out HB.out) (by decide) (by rw [HL.out]; decide) HL.out).mono ?_
          rintro e w9 ⟨rfl, hw⟩
          have hw2 : w3.alloc (.cells #[.int .i64 0, .int .i64 0, .int .i64 0, .int .i64 0] 26) = w9 := hw.symm
          subst hw2
          refine ⟨_, rfl, ?_⟩
          refine hK.out _ _ hHeld (fun hHeld => ?_)
          clear hK K
          refine norm_ (a' := ?_) ?_ ?_
          rotate_left
          · show Act.put _ (some 21) _ = _
            simp only [Act.put, List.setIfInBounds_toArray, List.set_cons_zero, List.set_cons_succ, i64_w, i32_w]
            rfl
          refine pure_ (i := 12) (N := some 22) (v := ?_) (a' := ?_) #[true, true, true, true, true, true, true, true, true, true, true, true, true, false, true, false] rfl rfl (by kernel_rfl) (fun _ _ _ h => h) (Or.inl ⟨by rfl, ?_⟩) ?_ ?_
          rotate_left
          · intro w'
            go_simp
            with_reducible rfl
          rotate_left
          · simp only [Act.put, List.setIfInBounds_toArray, List.set_cons_zero, List.set_cons_succ, i64_w, i32_w]
            rfl
          refine pure_ (i := 13) (N := some 23) (v := ?_) (a' := ?_) #[true, true, true, true, true, true, true, true, true, true, true, true, true, true, true, false] rfl rfl (by kernel_rfl) (fun _ _ _ h => h) (Or.inl ⟨by rfl, ?_⟩) ?_ ?_
          rotate_left
          · intro w'
            go_simp
            with_reducible rfl
          rotate_left
          · simp only [Act.put, List.setIfInBounds_toArray, List.set_cons_zero, List.set_cons_succ, i64_w, i32_w]
            rfl
          exact norm_ (by simp only [putAll, Act.put, List.setIfInBounds_toArray, List.set_cons_zero, List.set_cons_succ]) (hCont w3.heap.size _ ⟨hHeld, HQ.out, HG.out, HN.out, HM.out, BK.out, BR.out, HB.out⟩)
      · skip
        refine event_step (w1 := (w3).alloc (.cells #[.int .i64 0, .int .i64 0, .int .i64 0, .int .i64 0] 26)) (v := .pointer (some ⟨(w3).heap.size, 0, none⟩)) (by rfl) ?_ ?_
        · go_simp
        refine hK.out _ _ ⟨(World.cell?_alloc_lt _ _ _ (World.block_lt_of_cell? _ _ hHeld.1)).trans hHeld.1, (World.cell?_alloc_lt _ _ _ (World.block_lt_of_cell? _ _ hHeld.2)).trans hHeld.2⟩ (fun hHeld => ?_)
        clear hK K
        have HQ := Aside0.mk (show ((w3).alloc (.cells #[.int .i64 0, .int .i64 0, .int .i64 0, .int .i64 0] 26)).heap[(w3).heap.size]? = some (.cells #[.int .i64 0, .int .i64 0, .int .i64 0, .int .i64 0] 26 (0, 0)) from blk_new _ _)
        have HG := Aside0.mk (show w.heap.size ≤ (w3).heap.size from HB.out.size)
        have HN := Aside0.mk (show gr ≠ (w3).heap.size from Nat.ne_of_lt (blk_lt BR.out))
        have HM := Aside0.mk (show gb ≠ (w3).heap.size from Nat.ne_of_lt (blk_lt BK.out))
        replace BK := Aside0.mk (blk_alloc BK.out (.cells #[.int .i64 0, .int .i64 0, .int .i64 0, .int .i64 0] 26))
        replace BR := Aside0.mk (blk_alloc BR.out (.cells #[.int .i64 0, .int .i64 0, .int .i64 0, .int .i64 0] 26))
        replace HB := Aside0.mk (below_alloc HB.out (.cells #[.int .i64 0, .int .i64 0, .int .i64 0, .int .i64 0] 26))
        refine norm_ (a' := ?_) ?_ ?_
        rotate_left
        · show Act.put _ (some 4) _ = _
          simp only [Act.put, List.setIfInBounds_toArray, List.set_cons_zero, List.set_cons_succ, i64_w, i32_w]
          rfl
        refine one_ (i := 5) (N := some 15) #[true, true, true, true, true, true, false, true, false, false, true, false, false, false, true, false] rfl rfl (by kernel_rfl) (by decide) (fun K hK => ?_)
        refine call_ 27 #[.int .i64 2, .int .i64 4, .pointer (some ⟨gb, 0, none⟩)] (by rfl) rfl ?_ ?_
        · have he := enters_ Try.func27 (by kernel_rfl) rfl #[.int .i64 2, .int .i64 4, .pointer (some ⟨gb, 0, none⟩)] (w3.alloc (.cells #[.int .i64 0, .int .i64 0, .int .i64 0, .int .i64 0] 26))
          unfold execOp
          simp [resolve, Deferred.ofValue, invoke, Act.eval, he]
        refine (get_calls gb (some ad) c0 l0 2 4 _ BK.out (Kd.C_below HR.out HB.out) (by decide) (by rw [HL.out]; decide) HL.out).mono ?_
        rintro e w9 ⟨rfl, hw⟩
        have hw2 : w3.alloc (.cells #[.int .i64 0, .int .i64 0, .int .i64 0, .int .i64 0] 26) = w9 := hw.symm
        subst hw2
        refine ⟨_, rfl, ?_⟩
        refine hK.out _ _ hHeld (fun hHeld => ?_)
        clear hK K
        refine norm_ (a' := ?_) ?_ ?_
        rotate_left
        · show Act.put _ (some 15) _ = _
          simp only [Act.put, List.setIfInBounds_toArray, List.set_cons_zero, List.set_cons_succ, i64_w, i32_w]
          rfl
        refine pure_ (i := 6) (N := some 16) (v := ?_) (a' := ?_) #[true, true, true, true, true, true, true, true, false, false, true, false, false, false, true, false] rfl rfl (by kernel_rfl) (fun _ _ _ h => h) (Or.inl ⟨by rfl, ?_⟩) ?_ ?_
        rotate_left
        · intro w'
          go_simp
          with_reducible rfl
        rotate_left
        · simp only [Act.put, List.setIfInBounds_toArray, List.set_cons_zero, List.set_cons_succ, i64_w, i32_w]
          rfl
        refine one_ (i := 8) (N := some 18) #[true, true, true, true, true, true, true, true, true, false, true, false, false, false, true, false] rfl rfl (by kernel_rfl) (by decide) (fun K hK => ?_)
        refine call_ 27 #[.int .i64 6, .int .i64 8, .pointer (some ⟨gb, 0, none⟩)] (by rfl) rfl ?_ ?_
        · have he := enters_ Try.func27 (by kernel_rfl) rfl #[.int .i64 6, .int .i64 8, .pointer (some ⟨gb, 0, none⟩)] (w3.alloc (.cells #[.int .i64 0, .int .i64 0, .int .i64 0, .int .i64 0] 26))
          unfold execOp
          simp [resolve, Deferred.ofValue, invoke, Act.eval, he]
        refine (get_calls gb (some ad) c0 l0 6 8 _ BK.out (Kd.C_below HR.out HB.out) (by decide) (by rw [HL.out]; decide) HL.out).mono ?_
        rintro e w9 ⟨rfl, hw⟩
        have hw2 : w3.alloc (.cells #[.int .i64 0, .int .i64 0, .int .i64 0, .int .i64 0] 26) = w9 := hw.symm
        subst hw2
        refine ⟨_, rfl, ?_⟩
        refine hK.out _ _ hHeld (fun hHeld => ?_)
        clear hK K
        refine norm_ (a' := ?_) ?_ ?_
        rotate_left
        · show Act.put _ (some 18) _ = _
          simp only [Act.put, List.setIfInBounds_toArray, List.set_cons_zero, List.set_cons_succ, i64_w, i32_w]
          rfl
        refine pure_ (i := 9) (N := some 19) (v := ?_) (a' := ?_) #[true, true, true, true, true, true, true, true, true, true, true, false, false, false, true, false] rfl rfl (by kernel_rfl) (fun _ _ _ h => h) (Or.inl ⟨by rfl, ?_⟩) ?_ ?_
        rotate_left
        · intro w'
          go_simp
          with_reducible rfl
        rotate_left
        · simp only [Act.put, List.setIfInBounds_toArray, List.set_cons_zero, List.set_cons_succ, i64_w, i32_w]
          rfl
        refine one_ (i := 11) (N := some 21) #[true, true, true, true, true, true, true, true, true, true, true, true, false, false, true, false] rfl rfl (by kernel_rfl) (by decide) (fun K hK => ?_)
        refine call_ 27 #[.int .i64 14, .int .i64 4, .pointer (some ⟨gb, 0, none⟩)] (by rfl) rfl ?_ ?_
        · have he := enters_ Try.func27 (by kernel_rfl) rfl #[.int .i64 14, .int .i64 4, .pointer (some ⟨gb, 0, none⟩)] (w3.alloc (.cells #[.int .i64 0, .int .i64 0, .int .i64 0, .int .i64 0] 26))
          unfold execOp
          simp [resolve, Deferred.ofValue, invoke, Act.eval, he]
        refine (get_calls gb (some ad) c0 l0 14 4 _ BK.out (Kd.C_below HR.out HB.out) (by decide) (by rw [HL.out]; decide) HL.out).mono ?_
        rintro e w9 ⟨rfl, hw⟩
        have hw2 : w3.alloc (.cells #[.int .i64 0, .int .i64 0, .int .i64 0, .int .i64 0] 26) = w9 := hw.symm
        subst hw2
        refine ⟨_, rfl, ?_⟩
        refine hK.out _ _ hHeld (fun hHeld => ?_)
        clear hK K
        refine norm_ (a' := ?_) ?_ ?_
        rotate_left
        · show Act.put _ (some 21) _ = _
          simp only [Act.put, List.setIfInBounds_toArray, List.set_cons_zero, List.set_cons_succ, i64_w, i32_w]
          rfl
        refine pure_ (i := 12) (N := some 22) (v := ?_) (a' := ?_) #[true, true, true, true, true, true, true, true, true, true, true, true, true, false, true, false] rfl rfl (by kernel_rfl) (fun _ _ _ h => h) (Or.inl ⟨by rfl, ?_⟩) ?_ ?_
        rotate_left
        · intro w'
          go_simp
          with_reducible rfl
        rotate_left
        · simp only [Act.put, List.setIfInBounds_toArray, List.set_cons_zero, List.set_cons_succ, i64_w, i32_w]
          rfl
        refine pure_ (i := 13) (N := some 23) (v := ?_) (a' := ?_) #[true, true, true, true, true, true, true, true, true, true, true, true, true, true, true, false] rfl rfl (by kernel_rfl) (fun _ _ _ h => h) (Or.inl ⟨by rfl, ?_⟩) ?_ ?_
        rotate_left
        · intro w'
          go_simp
          with_reducible rfl
        rotate_left
        · simp only [Act.put, List.setIfInBounds_toArray, List.set_cons_zero, List.set_cons_succ, i64_w, i32_w]
          rfl
        exact norm_ (by simp only [putAll, Act.put, List.setIfInBounds_toArray, List.set_cons_zero, List.set_cons_succ]) (hCont w3.heap.size _ ⟨hHeld, HQ.out, HG.out, HN.out, HM.out, BK.out, BR.out, HB.out⟩)
    rintro gq w4 ⟨hHeld, hq, hg, hn, hm, hbk, hbr, hbb⟩
    refine norm_ (a' := ?_) ?_ ?_
    rotate_left
    · simp only [putAll, Act.put, List.setIfInBounds_toArray, List.set_cons_zero, List.set_cons_succ]
      rfl
    clear BK BR HB
    have BK := Aside0.mk hbk
    have BR := Aside0.mk hbr
    have BQ := Aside0.mk hq
    have HB := Aside0.mk hbb
    have GQ := Aside0.mk hg
    have NR := Aside0.mk hn
    have NB := Aside0.mk hm
    clear hq hg hn hm hbk hbr hbb
    refine last_ (i := 15) (N := none) #[true, true, true, true, true, true, true, true, true, true, true, true, true, true, true, true] rfl rfl (by kernel_rfl) (by decide) (fun K hK => ?_)
    have hs0 : w4.cell? ⟨gq, 0, none⟩ = some (.int .i64 0) := (blk_cell BQ.out 0).trans rfl
    have hs1 : w4.cell? ⟨gq, 1, none⟩ = some (.int .i64 0) := (blk_cell BQ.out 1).trans rfl
    have hs2 : w4.cell? ⟨gq, 2, none⟩ = some (.int .i64 0) := (blk_cell BQ.out 2).trans rfl
    have hs3 : w4.cell? ⟨gq, 3, none⟩ = some (.int .i64 0) := (blk_cell BQ.out 3).trans rfl
    have hf0 := blk_frozen BQ.out 0
    have hf1 := blk_frozen BQ.out 1
    have hf2 := blk_frozen BQ.out 2
    have hf3 := blk_frozen BQ.out 3
    refine skip_ (w1 := ?_) (by rfl) rfl ?_ ?_
    rotate_left
    · go_simp
      rfl
    refine hK.out _ _ ?_
    clear hK K
    refine done_ (by kernel_rfl) ?_
    refine gen_world fun w5 hw5 => ?_
    replace BQ : Aside0 (w5.heap[gq]? = some (.cells #[.int .i64 (wrap64 (rd l0 1)), .int .i64 (wrap64 (getNum l0 2 4)), .int .i64 (wrap64 (getNum l0 6 8)), .int .i64 (wrap64 (getNum l0 14 4))] 26 (0, 0))) := ⟨by rw [hw5]; exact blk_put (blk_put (blk_put (blk_put BQ.out 0 _ rfl) 1 _ rfl) 2 _ rfl) 3 _ rfl⟩
    replace BK : Aside0 (w5.heap[gb]? = some (.cells #[.slice (some ad) l0.length c0] 24 (0, 0))) := ⟨by rw [hw5]; exact blk_far (blk_far (blk_far (blk_far BK.out NB.out _) NB.out _) NB.out _) NB.out _⟩
    replace BR : Aside0 (w5.heap[gr]? = some (.cells #[.int .i64 0, .int .i64 0, .int .i64 0, .int .i64 0] 26 (0, 0))) := ⟨by rw [hw5]; exact blk_far (blk_far (blk_far (blk_far BR.out NR.out _) NR.out _) NR.out _) NR.out _⟩
    replace HB : Aside0 (Below w.heap.size w w5) := ⟨by rw [hw5]; exact below_set (below_set (below_set (below_set HB.out GQ.out) GQ.out) GQ.out) GQ.out⟩
    clear hw5 hs0 hs1 hs2 hs3 hf0 hf1 hf2 hf3 hHeld
    go_wp2
    have hE := Option.bind_eq_some_iff.mp H.out
    obtain ⟨en, hen, hE2⟩ := hE
    have HEN := Aside0.mk hen
    have HE2 := Aside0.mk hE2
    clear hen hE2 H
    refine start_ (n := 6) (S := fun w' => w'.cell? ⟨gb, 0, none⟩ = some (.slice (some ad) l0.length c0) ∧ Kd.C (Kd.int .u8) w' (some ad) l0.length l0 ∧ w'.cell? ⟨gq, 0, none⟩ = some (.int .i64 (wrap64 (rd l0 1))) ∧ w'.cell? ⟨gq, 1, none⟩ = some (.int .i64 (wrap64 (getNum l0 2 4))) ∧ w'.cell? ⟨gq, 2, none⟩ = some (.int .i64 (wrap64 (getNum l0 6 8))) ∧ w'.cell? ⟨gq, 3, none⟩ = some (.int .i64 (wrap64 (getNum l0 14 4)))) (ds := []) #[false, false, false, false, false, false] (by kernel_rfl) rfl rfl ⟨(blk_cell BK.out 0).trans rfl, Kd.C_below HR.out (below_drew1 HB.out), (blk_cell BQ.out 0).trans rfl, (blk_cell BQ.out 1).trans rfl, (blk_cell BQ.out 2).trans rfl, (blk_cell BQ.out 3).trans rfl⟩ (fun hHeld => ?_)
    replace BK := Aside0.mk (blk_drew BK.out)
    replace BQ := Aside0.mk (blk_drew BQ.out)
    replace BR := Aside0.mk (blk_drew BR.out)
    replace HB := Aside0.mk (below_drew1 HB.out)
    generalize w5.drew = w6 at BK BQ BR HB hHeld ⊢
    refine take_ (i := 0) (N := some 24) (v := ?_) (a' := ?_) #[true, false, false, false, false, false] rfl rfl (by kernel_rfl) (fun _ _ _ h => h) (Or.inl ⟨by rfl, ?_⟩) hHeld ?_ ?_
    rotate_left
    · rintro w' ⟨s0, sC, s1, s2, s3, s4⟩
      go_simp
      with_reducible rfl
    rotate_left
    · simp only [Act.put, List.setIfInBounds_toArray, List.set_cons_zero, List.set_cons_succ, i64_w, i32_w]
      rfl
    refine take_ (i := 3) (N := some 27) (v := ?_) (a' := ?_) #[true, false, false, true, false, false] rfl rfl (by kernel_rfl) (fun _ _ _ h => h) (Or.inl ⟨by rfl, ?_⟩) hHeld ?_ ?_
    rotate_left
    · rintro w' ⟨s0, sC, s1, s2, s3, s4⟩
      go_simp
      with_reducible rfl
    rotate_left
    · simp only [Act.put, List.setIfInBounds_toArray, List.set_cons_zero, List.set_cons_succ, i64_w, i32_w]
      rfl
    refine take_ (i := 4) (N := some 28) (v := ?_) (a' := ?_) #[true, false, false, true, true, false] rfl rfl (by kernel_rfl) (fun _ _ _ h => h) (Or.inl ⟨by rfl, ?_⟩) hHeld ?_ ?_
    rotate_left
    · rintro w' ⟨s0, sC, s1, s2, s3, s4⟩
      have hcv := Kd.C_string (P := Try.prog) (c := c0) Try.underlying24 Try.underlying5 Try.underlying9 sC
      clear sC s0 s1 s2 s3 s4
      go_simp
      with_reducible rfl
    rotate_left
    · simp only [Act.put, List.setIfInBounds_toArray, List.set_cons_zero, List.set_cons_succ, i64_w, i32_w]
      rfl
    refine one_ (i := 1) (N := some 25) #[true, true, false, true, true, false] rfl rfl (by kernel_rfl) (by decide) (fun K hK => ?_)
    refine goes_ Try.func8 (by kernel_rfl) rfl #[.agg #[.int .i64 (wrap64 (rd l0 1)), .int .i64 (wrap64 (getNum l0 2 4)), .int .i64 (wrap64 (getNum l0 6 8)), .int .i64 (wrap64 (getNum l0 14 4))]] (by rfl) rfl rfl (by (try simp only [List.map_toArray, List.map_cons, List.map_nil]); first | done | rfl) ?_
    refine (impl_Encode.calls _ _ _ _ en _ HEN.out).mono ?_
    rintro e w7 ⟨v7, rfl, ho7, hb7⟩
    refine ⟨_, rfl, ?_⟩
    have BK7 := Aside0.mk (blk_below BK.out hb7)
    have BQ7 := Aside0.mk (blk_below BQ.out hb7)
    have BR7 := Aside0.mk (blk_below BR.out hb7)
    have HB7 := Aside0.mk (below_step HB.out hb7)
    obtain ⟨Ae, ce, ee⟩ := Kd.R_slice ho7
    subst ee
    have HRe := Aside0.mk (Kd.R_reads' ho7).2.2
    clear hb7 ho7 BK BQ BR HB hHeld
    refine hK.out _ _ ⟨(blk_cell BK7.out 0).trans rfl, Kd.C_below HR.out HB7.out, (blk_cell BQ7.out 0).trans rfl, (blk_cell BQ7.out 1).trans rfl, (blk_cell BQ7.out 2).trans rfl, (blk_cell BQ7.out 3).trans rfl⟩ (fun hHeld => ?_)
    clear hK K
    refine norm_ (a' := ?_) ?_ ?_
    rotate_left
    · show Act.put _ (some 25) _ = _
      simp only [Act.put, List.setIfInBounds_toArray, List.set_cons_zero, List.set_cons_succ, i64_w, i32_w]
      rfl
    refine one_ (i := 2) (N := some 26) #[true, true, true, true, true, false] rfl rfl (by kernel_rfl) (by decide) (fun K hK => ?_)
    have hcv := Kd.C_string (P := Try.prog) (c := ce) Try.underlying24 Try.underlying5 Try.underlying9 HRe.out
    refine event_step (w1 := w7) (v := .string (strOfNums en)) (by rfl) ?_ ?_
    · go_simp
    clear hcv
    refine hK.out _ _ hHeld (fun hHeld => ?_)
    clear hK K
    refine norm_ (a' := ?_) ?_ ?_
    rotate_left
    · show Act.put _ (some 26) _ = _
      simp only [Act.put, List.setIfInBounds_toArray, List.set_cons_zero, List.set_cons_succ, i64_w, i32_w]
      rfl
    refine pure_ (i := 5) (N := some 29) (v := ?_) (a' := ?_) #[true, true, true, true, true, true] rfl rfl (by kernel_rfl) (fun _ _ _ h => h) (Or.inl ⟨by rfl, ?_⟩) ?_ ?_
    rotate_left
    · intro w'
      go_simp
      with_reducible rfl
    rotate_left
    · simp only [Act.put, List.setIfInBounds_toArray, List.set_cons_zero, List.set_cons_succ, i64_w, i32_w]
      rfl
    refine done_ (by kernel_rfl) ?_
    have NR1 := NR.out
    have NR2 := NR.out.symm
    clear hHeld
    have hq0 : w7.cell? ⟨gq, 0, none⟩ = some (.int .i64 (wrap64 (rd l0 1))) := (blk_cell BQ7.out 0).trans rfl
    have hr0 : w7.cell? ⟨gr, 0, none⟩ = some (.int .i64 0) := (blk_cell BR7.out 0).trans rfl
    have hf0 := blk_frozen BR7.out 0
    have hq1 : w7.cell? ⟨gq, 1, none⟩ = some (.int .i64 (wrap64 (getNum l0 2 4))) := (blk_cell BQ7.out 1).trans rfl
    have hr1 : w7.cell? ⟨gr, 1, none⟩ = some (.int .i64 0) := (blk_cell BR7.out 1).trans rfl
    have hf1 := blk_frozen BR7.out 1
    have hq2 : w7.cell? ⟨gq, 2, none⟩ = some (.int .i64 (wrap64 (getNum l0 6 8))) := (blk_cell BQ7.out 2).trans rfl
    have hr2 : w7.cell? ⟨gr, 2, none⟩ = some (.int .i64 0) := (blk_cell BR7.out 2).trans rfl
    have hf2 := blk_frozen BR7.out 2
    have hq3 : w7.cell? ⟨gq, 3, none⟩ = some (.int .i64 (wrap64 (getNum l0 14 4))) := (blk_cell BQ7.out 3).trans rfl
    have hr3 : w7.cell? ⟨gr, 3, none⟩ = some (.int .i64 0) := (blk_cell BR7.out 3).trans rfl
    have hf3 := blk_frozen BR7.out 3
    go_wp2_with fail
    · have ht : (!(@BEq.beq _ _ (strOfNums en).toList (strOfNums l0).toList)) = true := by assumption
      have hB : ¬ (strOfNums en).toList = (strOfNums l0).toList := by simpa using ht
      have hE3 : (0, 0, 0, 0) = (r1, r2, r3, r4) := by
        have h := HE2.out
        rw [if_neg hB] at h
        exact Option.some.inj h
      simp only [Prod.mk.injEq] at hE3
      obtain ⟨rfl, rfl, rfl, rfl⟩ := hE3
      refine bodyPost_ret (results_cell_row rfl _ _ gr 26 #[.int .i64 0, .int .i64 0, .int .i64 0, .int .i64 0] (0, 0) _ rfl (blk_put (blk_put (blk_put (blk_put BR7.out 0 _ rfl) 1 _ rfl) 2 _ rfl) 3 _ rfl) Try.underlying26 rfl (by kernel_rfl)) rfl ?_
      refine ⟨rfl, below_set (below_set (below_set (below_set HB7.out GR.out) GR.out) GR.out) GR.out⟩
    · have ht : (!(@BEq.beq _ _ (strOfNums en).toList (strOfNums l0).toList)) = false := by assumption
      have hB : (strOfNums en).toList = (strOfNums l0).toList := by simpa using ht
      have hE3 : decTry l0 = (r1, r2, r3, r4) := by
        have h := HE2.out
        rw [if_pos hB] at h
        exact Option.some.inj h
      simp only [decTry, Prod.mk.injEq] at hE3
      obtain ⟨rfl, rfl, rfl, rfl⟩ := hE3
      refine bodyPost_ret (results_cell_row rfl _ _ gr 26 #[.int .i64 (wrap64 (rd l0 1)), .int .i64 (wrap64 (getNum l0 2 4)), .int .i64 (wrap64 (getNum l0 6 8)), .int .i64 (wrap64 (getNum l0 14 4))] (0, 0) _ rfl (blk_put (blk_put (blk_put (blk_put BR7.out 0 _ rfl) 1 _ rfl) 2 _ rfl) 3 _ rfl) Try.underlying26 rfl (by kernel_rfl)) rfl ?_
      refine ⟨rfl, below_set (below_set (below_set (below_set HB7.out GR.out) GR.out) GR.out) GR.out⟩
  · rw [if_neg hl] at h
    have H := Option.some.inj h
    clear h
    simp only [Prod.mk.injEq] at H
    obtain ⟨rfl, rfl, rfl, rfl⟩ := H
    have hb : (((l0.length : Nat) : Int) != 24) = true := by rw [bne_iff_ne]; omega
    go_enter Try.func13, Try.ntmps13
    go_wp2_with (first | ((with_reducible refine gate_dst (N := 1) rfl ?_); refine box_event ?hg (N := 1) ?hd (cs := #[.slice A0 l0.length c0]) (t := 24) ?hr ?_; (case hd => rfl); (case hg => rfl); (case hr => first | (go_simp; done) | (go_simp; rfl)); intro gb hg w1 hbox hb; have HB1 := Aside0.mk hb; have BK1 := Aside0.mk hbox; have GB := Aside0.mk (show w.heap.size ≤ gb by rw [hg]; exact Nat.le_refl _); clear hb hbox hg; have hcb : w1.cell? ⟨gb, 0, none⟩ = some (.slice A0 l0.length c0) := (blk_cell BK1.out 0).trans rfl) | ((with_reducible refine gate_dst (N := 2) rfl ?_); refine box_event ?hg (N := 2) ?hd (cs := #[.int .i64 0, .int .i64 0, .int .i64 0, .int .i64 0]) (t := 26) ?hr ?_; (case hd => rfl); (case hg => rfl); (case hr => first | (go_simp; done) | (go_simp; rfl)); intro gr hg w2 hbox hb; have HB2 := Aside0.mk (below_step HB1.out hb); have BR2 := Aside0.mk hbox; have BK2 := Aside0.mk (blk_below BK1.out hb); have GR := Aside0.mk (show w.heap.size ≤ gr by rw [hg]; exact HB1.out.size); have NE := Aside0.mk (show gb ≠ gr by rw [hg]; exact Nat.ne_of_lt (blk_lt BK1.out)); clear hb hbox hg BK1 hcb; have hcb : w2.cell? ⟨gb, 0, none⟩ = some (.slice A0 l0.length c0) := (blk_cell BK2.out 0).trans rfl; have hr0 : w2.cell? ⟨gr, 0, none⟩ = some (.int .i64 0) := (blk_cell BR2.out 0).trans rfl; have hf0 := blk_frozen BR2.out 0; have hr1 : w2.cell? ⟨gr, 1, none⟩ = some (.int .i64 0) := (blk_cell BR2.out 1).trans rfl; have hf1 := blk_frozen BR2.out 1; have hr2 : w2.cell? ⟨gr, 2, none⟩ = some (.int .i64 0) := (blk_cell BR2.out 2).trans rfl; have hf2 := blk_frozen BR2.out 2; have hr3 : w2.cell? ⟨gr, 3, none⟩ = some (.int .i64 0) := (blk_cell BR2.out 3).trans rfl; have hf3 := blk_frozen BR2.out 3))
    refine bodyPost_ret (results_cell_row rfl _ _ gr 26 #[.int .i64 0, .int .i64 0, .int .i64 0, .int .i64 0] (0, 0) _ rfl (blk_put (blk_put (blk_put (blk_put BR2.out 0 _ rfl) 1 _ rfl) 2 _ rfl) 3 _ rfl) Try.underlying26 rfl (by kernel_rfl)) rfl ?_
    exact ⟨rfl, below_set (below_set (below_set (below_set HB2.out GR.out) GR.out) GR.out) GR.out⟩
end Go.Proofs.Ytbbiloekijjocaa.PAll
