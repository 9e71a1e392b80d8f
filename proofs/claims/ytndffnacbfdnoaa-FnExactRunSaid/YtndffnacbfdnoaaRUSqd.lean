-- Lines of Sqd that this claim uses.
import Derived.Test.YtndffnacbfdnoaaRUSqb
namespace Go.Proofs.Ytndffnacbfdnoaa.PAll
open Go.RowKit Go.Proofs.YtndffnacbfdnoaaW.PrintWords Go.Proofs.YtndffnacbfdnoaaW.PrintLast Go.Proofs.YtndffnacbfdnoaaW.PrintMore
section
variable {w : World} {g : Nat} {t : TypeId} {v a b c d e : Value} {l : List Value}
theorem b0 (h : Aside0 (w.heap[g]? = some (.cells (v :: l).toArray t (0, 0)))) : w.cell? ⟨g, 0, none⟩ = some v := (blk_cell h.out 0).trans rfl
theorem b1 (h : Aside0 (w.heap[g]? = some (.cells (a :: v :: l).toArray t (0, 0)))) : w.cell? ⟨g, 1, none⟩ = some v := (blk_cell h.out 1).trans rfl
theorem b2 (h : Aside0 (w.heap[g]? = some (.cells (a :: b :: v :: l).toArray t (0, 0)))) : w.cell? ⟨g, 2, none⟩ = some v := (blk_cell h.out 2).trans rfl
theorem b3 (h : Aside0 (w.heap[g]? = some (.cells (a :: b :: c :: v :: l).toArray t (0, 0)))) : w.cell? ⟨g, 3, none⟩ = some v := (blk_cell h.out 3).trans rfl
theorem b4 (h : Aside0 (w.heap[g]? = some (.cells (a :: b :: c :: d :: v :: l).toArray t (0, 0)))) : w.cell? ⟨g, 4, none⟩ = some v := (blk_cell h.out 4).trans rfl
theorem b5 (h : Aside0 (w.heap[g]? = some (.cells (a :: b :: c :: d :: e :: v :: l).toArray t (0, 0)))) : w.cell? ⟨g, 5, none⟩ = some v := (blk_cell h.out 5).trans rfl
theorem b6 {f : Value} (h : Aside0 (w.heap[g]? = some (.cells (a :: b :: c :: d :: e :: f :: v :: l).toArray t (0, 0)))) : w.cell? ⟨g, 6, none⟩ = some v := (blk_cell h.out 6).trans rfl
theorem b7 {f f2 : Value} (h : Aside0 (w.heap[g]? = some (.cells (a :: b :: c :: d :: e :: f :: f2 :: v :: l).toArray t (0, 0)))) : w.cell? ⟨g, 7, none⟩ = some v := (blk_cell h.out 7).trans rfl
theorem b8 {f f2 f3 : Value} (h : Aside0 (w.heap[g]? = some (.cells (a :: b :: c :: d :: e :: f :: f2 :: f3 :: v :: l).toArray t (0, 0)))) : w.cell? ⟨g, 8, none⟩ = some v := (blk_cell h.out 8).trans rfl
theorem b9 {f f2 f3 f4 : Value} (h : Aside0 (w.heap[g]? = some (.cells (a :: b :: c :: d :: e :: f :: f2 :: f3 :: f4 :: v :: l).toArray t (0, 0)))) : w.cell? ⟨g, 9, none⟩ = some v := (blk_cell h.out 9).trans rfl
end
theorem qB {w1 w2 : World} {g : Nat} {o : Obj} (h : Aside0 (w1.heap[g]? = some o)) (q : w1.heap[g]? = some o → w2.heap[g]? = some o := by
    intro h_; repeat (first | (with_reducible first | exact h_ | refine blk_drewN ?_ _ | refine blk_drew ?_ | refine blk_alloc ?_ _ | refine blk_far ?_ (Aside0.out (by assumption)) _) | exact h_)) : w2.heap[g]? = some o := q h.out
section
variable {P : Program} {ops : Array Oper} {Q : Exit → Act → World → Prop} {md : Region.Mode} {S : World → Prop} {ds : List Nat}
theorem boxA {rest : List Oper} {o : Oper} {a : Act} {W : World} {N : Tmp} (cs : Array Value) (t : TypeId)
    (h : ∀ g, g = W.heap.size → ∀ w1, w1.heap[g]? = some (.cells cs t (0, 0)) → Below W.heap.size W w1 → wpList P ops Q rest (a.put o.dst (.pointer (some ⟨g, 0, none⟩))) w1)
    (hd : o.dst = some N := by rfl) (hgd : o.guard = none := by rfl) (hr : (execOp a.eval o).run P W = .ok (.value (.pointer (some ⟨W.heap.size, 0, none⟩))) (W.alloc (.cells cs t (0, 0))) := by first | (go_simp; done) | (go_simp; rfl)) : wpList P ops Q (o :: rest) a W :=
  box_event hgd hd hr h
variable {oi : Oper} {v : Value} {fuel : Nat} {l : Array Bool} {a a' : Act} {w : World}
theorem pureA (i M : Nat) (l' : Array Bool) (hc : anyB md ops l l' i = true) (h : wpAnyLast P md ops Q S ds fuel l' a' w) (hi : ops[i]? = some oi := by rfl) (hN : oi.dst = some M := by rfl)
    (hy : Yields P ops oi v a := by exact Or.inl ⟨by rfl, by intro w'; go_simp; with_reducible rfl⟩) (hQ : ∀ c a w, Q (.panic c) (a.put oi.dst v) w → Q (.panic c) a w := by exact fun _ _ _ h => h)
    (ha : a.put (some M) v = a' := by simp only [Act.put, List.setIfInBounds_toArray, List.set_cons_zero, List.set_cons_succ, i64_w, i32_w]; rfl) : wpAnyLast P md ops Q S ds (fuel + 1) l a w := pure_ l' hi hN hc hQ hy ha h
theorem takeA (i M : Nat) (l' : Array Bool) (hc : takeB md ops ds l l' i = true) (hS : S w) (h : wpAnyLast P md ops Q S ds fuel l' a' w) (hi : ops[i]? = some oi := by rfl) (hN : oi.dst = some M := by rfl)
    (hy : YieldsIf P ops S oi v a := by exact Or.inl ⟨by rfl, by intro w' hs_; (try dsimp only at hs_); go_simp; with_reducible rfl⟩) (hQ : ∀ c a w, Q (.panic c) (a.put oi.dst v) w → Q (.panic c) a w := by exact fun _ _ _ h => h)
    (ha : a.put (some M) v = a' := by simp only [Act.put, List.setIfInBounds_toArray, List.set_cons_zero, List.set_cons_succ, i64_w, i32_w]; rfl) : wpAnyLast P md ops Q S ds (fuel + 1) l a w := take_ l' hi hN hc hQ hy hS ha h
end
end Go.Proofs.Ytndffnacbfdnoaa.PAll
