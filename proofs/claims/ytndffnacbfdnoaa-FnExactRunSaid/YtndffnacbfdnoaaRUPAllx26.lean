-- Lines of PAllx26 that this claim uses.
import Derived.Test.YtndffnacbfdnoaaRUSqd
import Derived.Test.YtndffnacbfdnoaaRUSq
import Derived.Test.YtndffnacbfdnoaaRUPAllx0
import Derived.Test.YtndffnacbfdnoaaRUPAllx7
import Derived.Test.YtndffnacbfdnoaaRUPAllx20
import Derived.Test.YtndffnacbfdnoaaRUPAllx21
import Derived.Test.YtndffnacbfdnoaaRUPAllx22
import Derived.Test.YtndffnacbfdnoaaRUPAllx23
import Derived.Test.YtndffnacbfdnoaaRUPAllx24
import Derived.Test.YtndffnacbfdnoaaRUPAllx25
import Derived.Test.YtndffnacbfdnoaaRUMarkI
import Derived.Test.YtndffnacbfdnoaaRUMarkM
import Derived.Test.YtndffnacbfdnoaaRURunA
import Derived.Test.YtndffnacbfdnoaaRUSpecRun
namespace Go.Proofs.Ytndffnacbfdnoaa.PAll
open Go.RowKit Go.Proofs.YtndffnacbfdnoaaW.PrintWords Go.Proofs.YtndffnacbfdnoaaW.PrintLast Go.Proofs.YtndffnacbfdnoaaW.PrintMore
attribute [local go_sem] max2_int min2_int max_two min_two max_three min_three max_four min_four
set_option linter.unusedVariables false
set_option linter.unusedSimpArgs false
def laws_FnExactRun.j0 : Nat → List (S127) → List (List Int) → Int → List (S86) → List (S86) → Bool → Int → Int → Int → Option (Bool)
 | 0, _, _, _, _, _, _, _, _, _ => none
 | k + 1, x1, x2, x3, x10, x13, x73, x891000, x891001, x891002 => if x73 = true then (some false) else ((laws_markMomentS.f k x13 1).bind fun bt930 => ((laws_heldMomentS.f k bt930.2 1).bind fun t932 => (if t932 < 0 then (some false) else (if t932 = bt930.1 then ((laws_toRules.f x891000 x891001 x891002).bind fun bt933 => ((laws_toSetS.f k x1).bind fun t936 => ((laws_toIntSS.f k x2).bind fun t939 => ((impl_RunA.f bt933.1 bt933.2.1 bt933.2.2 t936 t939 x3).bind fun t942 => ((laws_eqMomentS.f k t942 x10).bind fun t945 => (if t945 = true then ((laws_heldMomentS.f k bt930.2 1).bind fun t946 => (if t946 < 0 then (some false) else (if t946 = bt930.1 then (some true) else (some false)))) else (some false))))))) else (some false)))))
def laws_FnExactRun.f (k : Nat) (a0_0 : Int) (a0_1 : Int) (a0_2 : Int) (l1 : List (S127)) (l2 : List (List Int)) (a3 : Int) : Option (Bool) := (laws_szSetS.f l1 1048576).bind fun t891 => (if t891 < 0 then (some true) else ((laws_szIntSS.f k l2 t891).bind fun t892 => (if t892 < 0 then (some true) else ((laws_toRules.f a0_0 a0_1 a0_2).bind fun bt893 => ((laws_toSetS.f k l1).bind fun t896 => ((laws_toIntSS.f k l2).bind fun t899 => ((spec_Run.f bt893.1 bt893.2.1 bt893.2.2 t896 t899 a3).bind fun t902 => ((laws_toSetS.f k l1).bind fun t905 => ((laws_toIntSS.f k l2).bind fun t908 => ((laws_toRules.f a0_0 a0_1 a0_2).bind fun bt911 => ((impl_RunA.f bt911.1 bt911.2.1 bt911.2.2 t905 t908 a3).bind fun t914 => ((laws_eqMomentS.f k t914 t902).bind fun t917 => (if t917 = true then ((laws_toSetS.f k l1).bind fun t918 => ((laws_eqSetS.f k t905 t918).bind fun t921 => (if t921 = true then ((laws_toIntSS.f k l2).bind fun t922 => ((laws_eqIntSS.f k t908 t922).bind fun t925 => (if t925 = true then ((laws_markSetS.f k t905 1).bind fun bt926 => ((laws_markIntSS.f k t908 bt926.1).bind fun t928 => (if t928 < 0 then (laws_FnExactRun.j0 k l1 l2 a3 t902 t914 true a0_0 a0_1 a0_2) else ((laws_eqMomentS.f k t914 t902).bind fun t929 => (laws_FnExactRun.j0 k l1 l2 a3 t902 t914 (!t929) a0_0 a0_1 a0_2))))) else (some false)))) else (some false)))) else (some false))))))))))))))
set_option maxHeartbeats 8000000 in
set_option maxRecDepth 100000 in
theorem laws_FnExactRun.calls (k : Nat) (a0_0 : Int) (a0_1 : Int) (a0_2 : Int) (A1 : Option Addr) (c1 : Nat) (l1 : List (S127)) (A2 : Option Addr) (c2 : Nat) (l2 : List (List Int)) (a3 : Int) (w : World) (hr1 : Kd.C k127 w A1 l1.length l1) (hc1 : l1.length ≤ c1) (hr2 : Kd.C (Kd.slice 3 (Kd.int .i64)) w A2 l2.length l2) (hc2 : l2.length ≤ c2) (h : laws_FnExactRun.f k a0_0 a0_1 a0_2 l1 l2 a3 = some true) :
  Calls Try.prog 6 #[.agg #[.int .i64 a0_0, .int .i64 a0_1, .int .i64 a0_2], .slice A1 l1.length c1, .slice A2 l2.length c2, .int .i64 a3] w fun e w' => e = .returned (.bool true) ∧ Below w.heap.size w w' := by
 have hu23 := Try.underlying23
 have HR1 := Aside0.mk hr1
 have HC1 := Aside0.mk hc1
 clear hr1 hc1
 have HR2 := Aside0.mk hr2
 have HC2 := Aside0.mk hc2
 clear hr2 hc2
 have HB := Aside0.mk (Below.refl w.heap.size w)
 have H : ((laws_szSetS.f l1 1048576).bind fun t891 => (if t891 < 0 then (some true) else ((laws_szIntSS.f k l2 t891).bind fun t892 => (if t892 < 0 then (some true) else ((laws_toRules.f a0_0 a0_1 a0_2).bind fun bt893 => ((laws_toSetS.f k l1).bind fun t896 => ((laws_toIntSS.f k l2).bind fun t899 => ((spec_Run.f bt893.1 bt893.2.1 bt893.2.2 t896 t899 a3).bind fun t902 => ((laws_toSetS.f k l1).bind fun t905 => ((laws_toIntSS.f k l2).bind fun t908 => ((laws_toRules.f a0_0 a0_1 a0_2).bind fun bt911 => ((impl_RunA.f bt911.1 bt911.2.1 bt911.2.2 t905 t908 a3).bind fun t914 => ((laws_eqMomentS.f k t914 t902).bind fun t917 => (if t917 = true then ((laws_toSetS.f k l1).bind fun t918 => ((laws_eqSetS.f k t905 t918).bind fun t921 => (if t921 = true then ((laws_toIntSS.f k l2).bind fun t922 => ((laws_eqIntSS.f k t908 t922).bind fun t925 => (if t925 = true then ((laws_markSetS.f k t905 1).bind fun bt926 => ((laws_markIntSS.f k t908 bt926.1).bind fun t928 => (if t928 < 0 then (laws_FnExactRun.j0 k l1 l2 a3 t902 t914 true a0_0 a0_1 a0_2) else ((laws_eqMomentS.f k t914 t902).bind fun t929 => (laws_FnExactRun.j0 k l1 l2 a3 t902 t914 (!t929) a0_0 a0_1 a0_2))))) else (some false)))) else (some false)))) else (some false))))))))))))))) = some true := h
 clear h
 replace H := Option.bind_eq_some_iff.mp H
 obtain ⟨t891, A50, H⟩ := H
 replace H : (if t891 < 0 then (some true) else ((laws_szIntSS.f k l2 t891).bind fun t892 => (if t892 < 0 then (some true) else ((laws_toRules.f a0_0 a0_1 a0_2).bind fun bt893 => ((laws_toSetS.f k l1).bind fun t896 => ((laws_toIntSS.f k l2).bind fun t899 => ((spec_Run.f bt893.1 bt893.2.1 bt893.2.2 t896 t899 a3).bind fun t902 => ((laws_toSetS.f k l1).bind fun t905 => ((laws_toIntSS.f k l2).bind fun t908 => ((laws_toRules.f a0_0 a0_1 a0_2).bind fun bt911 => ((impl_RunA.f bt911.1 bt911.2.1 bt911.2.2 t905 t908 a3).bind fun t914 => ((laws_eqMomentS.f k t914 t902).bind fun t917 => (if t917 = true then ((laws_toSetS.f k l1).bind fun t918 => ((laws_eqSetS.f k t905 t918).bind fun t921 => (if t921 = true then ((laws_toIntSS.f k l2).bind fun t922 => ((laws_eqIntSS.f k t908 t922).bind fun t925 => (if t925 = true then ((laws_markSetS.f k t905 1).bind fun bt926 => ((laws_markIntSS.f k t908 bt926.1).bind fun t928 => (if t928 < 0 then (laws_FnExactRun.j0 k l1 l2 a3 t902 t914 true a0_0 a0_1 a0_2) else ((laws_eqMomentS.f k t914 t902).bind fun t929 => (laws_FnExactRun.j0 k l1 l2 a3 t902 t914 (!t929) a0_0 a0_1 a0_2))))) else (some false)))) else (some false)))) else (some false)))))))))))))) = some true := H
 have A5 := Aside0.mk A50
 clear A50
 by_cases c6 : t891 < 0
 ·rw [if_pos c6] at H
  have c6b0 : decide (t891 < 0) = true := decide_eq_true c6
  clear c6
  go_enter Try.func6, Try.ntmps6
  go_wp2_with (first | ((with_reducible refine gate_dst (N := 4) rfl ?_); refine boxA #[.int .i64 a0_0, .int .i64 a0_1, .int .i64 a0_2] 23 ?_; intro gb890 hg w7 hbox hb; have BK890 := Aside0.mk (hbox); have GW890 := nge HB hg; have GE890 := nge HB hg; replace HB := bst HB hb; clear hb hbox hg) | ((with_reducible refine gate_callee (f := 33) rfl ?_); refine goesLA (some 20) rfl Try.func33 #[.slice A1 l1.length c1, .int .i64 1048576] ?_; (with_reducible refine (laws_szSetS.calls _ _ l1 1048576 t891 _ ?side1 ?side2 A5.out).mono ?_); (case side1 => exact qc (Kd.C_below HR1.out HB.out)); (case side2 => exact HC1.out); rintro e w' ⟨rfl, ⟨nd, rfl⟩⟩; refine ⟨_, rfl, ?_⟩))
  go_ret
  exact ⟨by first | rfl | (simp [*, errW_none, errW_some] <;> rfl), (qs HB)⟩
 rw [if_neg c6] at H
 have c6b0 : decide (t891 < 0) = false := decide_eq_false c6
 clear c6
 replace H := Option.bind_eq_some_iff.mp H
 obtain ⟨t892, A80, H⟩ := H
 replace H : (if t892 < 0 then (some true) else ((laws_toRules.f a0_0 a0_1 a0_2).bind fun bt893 => ((laws_toSetS.f k l1).bind fun t896 => ((laws_toIntSS.f k l2).bind fun t899 => ((spec_Run.f bt893.1 bt893.2.1 bt893.2.2 t896 t899 a3).bind fun t902 => ((laws_toSetS.f k l1).bind fun t905 => ((laws_toIntSS.f k l2).bind fun t908 => ((laws_toRules.f a0_0 a0_1 a0_2).bind fun bt911 => ((impl_RunA.f bt911.1 bt911.2.1 bt911.2.2 t905 t908 a3).bind fun t914 => ((laws_eqMomentS.f k t914 t902).bind fun t917 => (if t917 = true then ((laws_toSetS.f k l1).bind fun t918 => ((laws_eqSetS.f k t905 t918).bind fun t921 => (if t921 = true then ((laws_toIntSS.f k l2).bind fun t922 => ((laws_eqIntSS.f k t908 t922).bind fun t925 => (if t925 = true then ((laws_markSetS.f k t905 1).bind fun bt926 => ((laws_markIntSS.f k t908 bt926.1).bind fun t928 => (if t928 < 0 then (laws_FnExactRun.j0 k l1 l2 a3 t902 t914 true a0_0 a0_1 a0_2) else ((laws_eqMomentS.f k t914 t902).bind fun t929 => (laws_FnExactRun.j0 k l1 l2 a3 t902 t914 (!t929) a0_0 a0_1 a0_2))))) else (some false)))) else (some false)))) else (some false)))))))))))) = some true := H
 have A8 := Aside0.mk A80
 clear A80
 by_cases c9 : t892 < 0
 ·rw [if_pos c9] at H
  have c9b0 : decide (t892 < 0) = true := decide_eq_true c9
  clear c9
  go_enter Try.func6, Try.ntmps6
  go_wp2_with (first | ((with_reducible refine gate_dst (N := 4) rfl ?_); refine boxA #[.int .i64 a0_0, .int .i64 a0_1, .int .i64 a0_2] 23 ?_; intro gb890 hg w10 hbox hb; have BK890 := Aside0.mk (hbox); have GW890 := nge HB hg; have GE890 := nge HB hg; replace HB := bst HB hb; clear hb hbox hg) | ((with_reducible refine gate_callee (f := 33) rfl ?_); refine goesLA (some 20) rfl Try.func33 #[.slice A1 l1.length c1, .int .i64 1048576] ?_; (with_reducible refine (laws_szSetS.calls _ _ l1 1048576 t891 _ ?side1 ?side2 A5.out).mono ?_); (case side1 => exact qc (Kd.C_below HR1.out HB.out)); (case side2 => exact HC1.out); rintro e w' ⟨rfl, ⟨nd, rfl⟩⟩; refine ⟨_, rfl, ?_⟩) | ((with_reducible refine gate_callee (f := 34) rfl ?_); refine goesLA (some 25) rfl Try.func34 #[.slice A2 l2.length c2, .int .i64 t891] ?_; (with_reducible refine (laws_szIntSS.calls k _ _ l2 t891 t892 _ ?side1 ?side2 A8.out).mono ?_); (case side1 => repeat (first | exact (Kd.C_below HR2.out (qs HB)) | (with_reducible refine Kd.C_alloc ?_ _) | (with_reducible refine Kd.C_drewN ?_ _) | (with_reducible refine Kd.C_drew ?_))); (case side2 => exact HC2.out); rintro e w' ⟨rfl, ⟨nd, rfl⟩⟩; refine ⟨_, rfl, ?_⟩))
  go_ret
  exact ⟨by first | rfl | (simp [*, errW_none, errW_some] <;> rfl), (qs HB)⟩
 rw [if_neg c9] at H
 have c9b0 : decide (t892 < 0) = false := decide_eq_false c9
 clear c9
 replace H := Option.bind_eq_some_iff.mp H
 obtain ⟨⟨t893, t894, t895⟩, A110, H⟩ := H
 replace H : ((laws_toSetS.f k l1).bind fun t896 => ((laws_toIntSS.f k l2).bind fun t899 => ((spec_Run.f t893 t894 t895 t896 t899 a3).bind fun t902 => ((laws_toSetS.f k l1).bind fun t905 => ((laws_toIntSS.f k l2).bind fun t908 => ((laws_toRules.f a0_0 a0_1 a0_2).bind fun bt911 => ((impl_RunA.f bt911.1 bt911.2.1 bt911.2.2 t905 t908 a3).bind fun t914 => ((laws_eqMomentS.f k t914 t902).bind fun t917 => (if t917 = true then ((laws_toSetS.f k l1).bind fun t918 => ((laws_eqSetS.f k t905 t918).bind fun t921 => (if t921 = true then ((laws_toIntSS.f k l2).bind fun t922 => ((laws_eqIntSS.f k t908 t922).bind fun t925 => (if t925 = true then ((laws_markSetS.f k t905 1).bind fun bt926 => ((laws_markIntSS.f k t908 bt926.1).bind fun t928 => (if t928 < 0 then (laws_FnExactRun.j0 k l1 l2 a3 t902 t914 true a0_0 a0_1 a0_2) else ((laws_eqMomentS.f k t914 t902).bind fun t929 => (laws_FnExactRun.j0 k l1 l2 a3 t902 t914 (!t929) a0_0 a0_1 a0_2))))) else (some false)))) else (some false)))) else (some false)))))))))) = some true := H
 have A11 := Aside0.mk A110
 clear A110
 replace H := Option.bind_eq_some_iff.mp H
 obtain ⟨t896, A120, H⟩ := H
 replace H : ((laws_toIntSS.f k l2).bind fun t899 => ((spec_Run.f t893 t894 t895 t896 t899 a3).bind fun t902 => ((laws_toSetS.f k l1).bind fun t905 => ((laws_toIntSS.f k l2).bind fun t908 => ((laws_toRules.f a0_0 a0_1 a0_2).bind fun bt911 => ((impl_RunA.f bt911.1 bt911.2.1 bt911.2.2 t905 t908 a3).bind fun t914 => ((laws_eqMomentS.f k t914 t902).bind fun t917 => (if t917 = true then ((laws_toSetS.f k l1).bind fun t918 => ((laws_eqSetS.f k t905 t918).bind fun t921 => (if t921 = true then ((laws_toIntSS.f k l2).bind fun t922 => ((laws_eqIntSS.f k t908 t922).bind fun t925 => (if t925 = true then ((laws_markSetS.f k t905 1).bind fun bt926 => ((laws_markIntSS.f k t908 bt926.1).bind fun t928 => (if t928 < 0 then (laws_FnExactRun.j0 k l1 l2 a3 t902 t914 true a0_0 a0_1 a0_2) else ((laws_eqMomentS.f k t914 t902).bind fun t929 => (laws_FnExactRun.j0 k l1 l2 a3 t902 t914 (!t929) a0_0 a0_1 a0_2))))) else (some false)))) else (some false)))) else (some false))))))))) = some true := H
 have A12 := Aside0.mk A120
 clear A120
 replace H := Option.bind_eq_some_iff.mp H
 obtain ⟨t899, A130, H⟩ := H
 replace H : ((spec_Run.f t893 t894 t895 t896 t899 a3).bind fun t902 => ((laws_toSetS.f k l1).bind fun t905 => ((laws_toIntSS.f k l2).bind fun t908 => ((laws_toRules.f a0_0 a0_1 a0_2).bind fun bt911 => ((impl_RunA.f bt911.1 bt911.2.1 bt911.2.2 t905 t908 a3).bind fun t914 => ((laws_eqMomentS.f k t914 t902).bind fun t917 => (if t917 = true then ((laws_toSetS.f k l1).bind fun t918 => ((laws_eqSetS.f k t905 t918).bind fun t921 => (if t921 = true then ((laws_toIntSS.f k l2).bind fun t922 => ((laws_eqIntSS.f k t908 t922).bind fun t925 => (if t925 = true then ((laws_markSetS.f k t905 1).bind fun bt926 => ((laws_markIntSS.f k t908 bt926.1).bind fun t928 => (if t928 < 0 then (laws_FnExactRun.j0 k l1 l2 a3 t902 t914 true a0_0 a0_1 a0_2) else ((laws_eqMomentS.f k t914 t902).bind fun t929 => (laws_FnExactRun.j0 k l1 l2 a3 t902 t914 (!t929) a0_0 a0_1 a0_2))))) else (some false)))) else (some false)))) else (some false)))))))) = some true := H
 have A13 := Aside0.mk A130
 clear A130
 replace H := Option.bind_eq_some_iff.mp H
 obtain ⟨t902, A140, H⟩ := H
 replace H : ((laws_toSetS.f k l1).bind fun t905 => ((laws_toIntSS.f k l2).bind fun t908 => ((laws_toRules.f a0_0 a0_1 a0_2).bind fun bt911 => ((impl_RunA.f bt911.1 bt911.2.1 bt911.2.2 t905 t908 a3).bind fun t914 => ((laws_eqMomentS.f k t914 t902).bind fun t917 => (if t917 = true then ((laws_toSetS.f k l1).bind fun t918 => ((laws_eqSetS.f k t905 t918).bind fun t921 => (if t921 = true then ((laws_toIntSS.f k l2).bind fun t922 => ((laws_eqIntSS.f k t908 t922).bind fun t925 => (if t925 = true then ((laws_markSetS.f k t905 1).bind fun bt926 => ((laws_markIntSS.f k t908 bt926.1).bind fun t928 => (if t928 < 0 then (laws_FnExactRun.j0 k l1 l2 a3 t902 t914 true a0_0 a0_1 a0_2) else ((laws_eqMomentS.f k t914 t902).bind fun t929 => (laws_FnExactRun.j0 k l1 l2 a3 t902 t914 (!t929) a0_0 a0_1 a0_2))))) else (some false)))) else (some false)))) else (some false))))))) = some true := H
 have A14 := Aside0.mk A140
 clear A140
 replace H := Option.bind_eq_some_iff.mp H
 obtain ⟨t905, A150, H⟩ := H
 replace H : ((laws_toIntSS.f k l2).bind fun t908 => ((laws_toRules.f a0_0 a0_1 a0_2).bind fun bt911 => ((impl_RunA.f bt911.1 bt911.2.1 bt911.2.2 t905 t908 a3).bind fun t914 => ((laws_eqMomentS.f k t914 t902).bind fun t917 => (if t917 = true then ((laws_toSetS.f k l1).bind fun t918 => ((laws_eqSetS.f k t905 t918).bind fun t921 => (if t921 = true then ((laws_toIntSS.f k l2).bind fun t922 => ((laws_eqIntSS.f k t908 t922).bind fun t925 => (if t925 = true then ((laws_markSetS.f k t905 1).bind fun bt926 => ((laws_markIntSS.f k t908 bt926.1).bind fun t928 => (if t928 < 0 then (laws_FnExactRun.j0 k l1 l2 a3 t902 t914 true a0_0 a0_1 a0_2) else ((laws_eqMomentS.f k t914 t902).bind fun t929 => (laws_FnExactRun.j0 k l1 l2 a3 t902 t914 (!t929) a0_0 a0_1 a0_2))))) else (some false)))) else (some false)))) else (some false)))))) = some true := H
 have A15 := Aside0.mk A150
 clear A150
 replace H := Option.bind_eq_some_iff.mp H
 obtain ⟨t908, A160, H⟩ := H
 replace H : ((laws_toRules.f a0_0 a0_1 a0_2).bind fun bt911 => ((impl_RunA.f bt911.1 bt911.2.1 bt911.2.2 t905 t908 a3).bind fun t914 => ((laws_eqMomentS.f k t914 t902).bind fun t917 => (if t917 = true then ((laws_toSetS.f k l1).bind fun t918 => ((laws_eqSetS.f k t905 t918).bind fun t921 => (if t921 = true then ((laws_toIntSS.f k l2).bind fun t922 => ((laws_eqIntSS.f k t908 t922).bind fun t925 => (if t925 = true then ((laws_markSetS.f k t905 1).bind fun bt926 => ((laws_markIntSS.f k t908 bt926.1).bind fun t928 => (if t928 < 0 then (laws_FnExactRun.j0 k l1 l2 a3 t902 t914 true a0_0 a0_1 a0_2) else ((laws_eqMomentS.f k t914 t902).bind fun t929 => (laws_FnExactRun.j0 k l1 l2 a3 t902 t914 (!t929) a0_0 a0_1 a0_2))))) else (some false)))) else (some false)))) else (some false))))) = some true := H
 have A16 := Aside0.mk A160
 clear A160
 replace H := Option.bind_eq_some_iff.mp H
 obtain ⟨⟨t911, t912, t913⟩, A170, H⟩ := H
 replace H : ((impl_RunA.f t911 t912 t913 t905 t908 a3).bind fun t914 => ((laws_eqMomentS.f k t914 t902).bind fun t917 => (if t917 = true then ((laws_toSetS.f k l1).bind fun t918 => ((laws_eqSetS.f k t905 t918).bind fun t921 => (if t921 = true then ((laws_toIntSS.f k l2).bind fun t922 => ((laws_eqIntSS.f k t908 t922).bind fun t925 => (if t925 = true then ((laws_markSetS.f k t905 1).bind fun bt926 => ((laws_markIntSS.f k t908 bt926.1).bind fun t928 => (if t928 < 0 then (laws_FnExactRun.j0 k l1 l2 a3 t902 t914 true a0_0 a0_1 a0_2) else ((laws_eqMomentS.f k t914 t902).bind fun t929 => (laws_FnExactRun.j0 k l1 l2 a3 t902 t914 (!t929) a0_0 a0_1 a0_2))))) else (some false)))) else (some false)))) else (some false)))) = some true := H
 have A17 := Aside0.mk A170
 clear A170
 replace H := Option.bind_eq_some_iff.mp H
 obtain ⟨t914, A180, H⟩ := H
 replace H : ((laws_eqMomentS.f k t914 t902).bind fun t917 => (if t917 = true then ((laws_toSetS.f k l1).bind fun t918 => ((laws_eqSetS.f k t905 t918).bind fun t921 => (if t921 = true then ((laws_toIntSS.f k l2).bind fun t922 => ((laws_eqIntSS.f k t908 t922).bind fun t925 => (if t925 = true then ((laws_markSetS.f k t905 1).bind fun bt926 => ((laws_markIntSS.f k t908 bt926.1).bind fun t928 => (if t928 < 0 then (laws_FnExactRun.j0 k l1 l2 a3 t902 t914 true a0_0 a0_1 a0_2) else ((laws_eqMomentS.f k t914 t902).bind fun t929 => (laws_FnExactRun.j0 k l1 l2 a3 t902 t914 (!t929) a0_0 a0_1 a0_2))))) else (some false)))) else (some false)))) else (some false))) = some true := H
 have A18 := Aside0.mk A180
 clear A180
 replace H := Option.bind_eq_some_iff.mp H
 obtain ⟨t917, A190, H⟩ := H
 replace H : (if t917 = true then ((laws_toSetS.f k l1).bind fun t918 => ((laws_eqSetS.f k t905 t918).bind fun t921 => (if t921 = true then ((laws_toIntSS.f k l2).bind fun t922 => ((laws_eqIntSS.f k t908 t922).bind fun t925 => (if t925 = true then ((laws_markSetS.f k t905 1).bind fun bt926 => ((laws_markIntSS.f k t908 bt926.1).bind fun t928 => (if t928 < 0 then (laws_FnExactRun.j0 k l1 l2 a3 t902 t914 true a0_0 a0_1 a0_2) else ((laws_eqMomentS.f k t914 t902).bind fun t929 => (laws_FnExactRun.j0 k l1 l2 a3 t902 t914 (!t929) a0_0 a0_1 a0_2))))) else (some false)))) else (some false)))) else (some false)) = some true := H
 have A19 := Aside0.mk A190
 clear A190
 by_cases c20 : t917 = true
 ·subst c20
  have H1 : ((laws_toSetS.f k l1).bind fun t918 => ((laws_eqSetS.f k t905 t918).bind fun t921 => (if t921 = true then ((laws_toIntSS.f k l2).bind fun t922 => ((laws_eqIntSS.f k t908 t922).bind fun t925 => (if t925 = true then ((laws_markSetS.f k t905 1).bind fun bt926 => ((laws_markIntSS.f k t908 bt926.1).bind fun t928 => (if t928 < 0 then (laws_FnExactRun.j0 k l1 l2 a3 t902 t914 true a0_0 a0_1 a0_2) else ((laws_eqMomentS.f k t914 t902).bind fun t929 => (laws_FnExactRun.j0 k l1 l2 a3 t902 t914 (!t929) a0_0 a0_1 a0_2))))) else (some false)))) else (some false)))) = some true := by rw [if_pos rfl] at H; exact H
  clear H; have H := H1; clear H1
  replace H := Option.bind_eq_some_iff.mp H
  obtain ⟨t918, A210, H⟩ := H
  replace H : ((laws_eqSetS.f k t905 t918).bind fun t921 => (if t921 = true then ((laws_toIntSS.f k l2).bind fun t922 => ((laws_eqIntSS.f k t908 t922).bind fun t925 => (if t925 = true then ((laws_markSetS.f k t905 1).bind fun bt926 => ((laws_markIntSS.f k t908 bt926.1).bind fun t928 => (if t928 < 0 then (laws_FnExactRun.j0 k l1 l2 a3 t902 t914 true a0_0 a0_1 a0_2) else ((laws_eqMomentS.f k t914 t902).bind fun t929 => (laws_FnExactRun.j0 k l1 l2 a3 t902 t914 (!t929) a0_0 a0_1 a0_2))))) else (some false)))) else (some false))) = some true := H
  have A21 := Aside0.mk A210
  clear A210
  replace H := Option.bind_eq_some_iff.mp H
  obtain ⟨t921, A220, H⟩ := H
  replace H : (if t921 = true then ((laws_toIntSS.f k l2).bind fun t922 => ((laws_eqIntSS.f k t908 t922).bind fun t925 => (if t925 = true then ((laws_markSetS.f k t905 1).bind fun bt926 => ((laws_markIntSS.f k t908 bt926.1).bind fun t928 => (if t928 < 0 then (laws_FnExactRun.j0 k l1 l2 a3 t902 t914 true a0_0 a0_1 a0_2) else ((laws_eqMomentS.f k t914 t902).bind fun t929 => (laws_FnExactRun.j0 k l1 l2 a3 t902 t914 (!t929) a0_0 a0_1 a0_2))))) else (some false)))) else (some false)) = some true := H
  have A22 := Aside0.mk A220
  clear A220
  by_cases c23 : t921 = true
  ·subst c23
   have H1 : ((laws_toIntSS.f k l2).bind fun t922 => ((laws_eqIntSS.f k t908 t922).bind fun t925 => (if t925 = true then ((laws_markSetS.f k t905 1).bind fun bt926 => ((laws_markIntSS.f k t908 bt926.1).bind fun t928 => (if t928 < 0 then (laws_FnExactRun.j0 k l1 l2 a3 t902 t914 true a0_0 a0_1 a0_2) else ((laws_eqMomentS.f k t914 t902).bind fun t929 => (laws_FnExactRun.j0 k l1 l2 a3 t902 t914 (!t929) a0_0 a0_1 a0_2))))) else (some false)))) = some true := by rw [if_pos rfl] at H; exact H
   clear H; have H := H1; clear H1
   replace H := Option.bind_eq_some_iff.mp H
   obtain ⟨t922, A240, H⟩ := H
   replace H : ((laws_eqIntSS.f k t908 t922).bind fun t925 => (if t925 = true then ((laws_markSetS.f k t905 1).bind fun bt926 => ((laws_markIntSS.f k t908 bt926.1).bind fun t928 => (if t928 < 0 then (laws_FnExactRun.j0 k l1 l2 a3 t902 t914 true a0_0 a0_1 a0_2) else ((laws_eqMomentS.f k t914 t902).bind fun t929 => (laws_FnExactRun.j0 k l1 l2 a3 t902 t914 (!t929) a0_0 a0_1 a0_2))))) else (some false))) = some true := H
   have A24 := Aside0.mk A240
   clear A240
   replace H := Option.bind_eq_some_iff.mp H
   obtain ⟨t925, A250, H⟩ := H
   replace H : (if t925 = true then ((laws_markSetS.f k t905 1).bind fun bt926 => ((laws_markIntSS.f k t908 bt926.1).bind fun t928 => (if t928 < 0 then (laws_FnExactRun.j0 k l1 l2 a3 t902 t914 true a0_0 a0_1 a0_2) else ((laws_eqMomentS.f k t914 t902).bind fun t929 => (laws_FnExactRun.j0 k l1 l2 a3 t902 t914 (!t929) a0_0 a0_1 a0_2))))) else (some false)) = some true := H
   have A25 := Aside0.mk A250
   clear A250
   by_cases c26 : t925 = true
   ·subst c26
    have H1 : ((laws_markSetS.f k t905 1).bind fun bt926 => ((laws_markIntSS.f k t908 bt926.1).bind fun t928 => (if t928 < 0 then (laws_FnExactRun.j0 k l1 l2 a3 t902 t914 true a0_0 a0_1 a0_2) else ((laws_eqMomentS.f k t914 t902).bind fun t929 => (laws_FnExactRun.j0 k l1 l2 a3 t902 t914 (!t929) a0_0 a0_1 a0_2))))) = some true := by rw [if_pos rfl] at H; exact H
    clear H; have H := H1; clear H1
    replace H := Option.bind_eq_some_iff.mp H
    obtain ⟨⟨t926, t927⟩, A270, H⟩ := H
    replace H : ((laws_markIntSS.f k t908 t926).bind fun t928 => (if t928 < 0 then (laws_FnExactRun.j0 k l1 l2 a3 t902 t914 true a0_0 a0_1 a0_2) else ((laws_eqMomentS.f k t914 t902).bind fun t929 => (laws_FnExactRun.j0 k l1 l2 a3 t902 t914 (!t929) a0_0 a0_1 a0_2)))) = some true := H
    have A27 := Aside0.mk A270
    clear A270
    replace H := Option.bind_eq_some_iff.mp H
    obtain ⟨t928, A280, H⟩ := H
    replace H : (if t928 < 0 then (laws_FnExactRun.j0 k l1 l2 a3 t902 t914 true a0_0 a0_1 a0_2) else ((laws_eqMomentS.f k t914 t902).bind fun t929 => (laws_FnExactRun.j0 k l1 l2 a3 t902 t914 (!t929) a0_0 a0_1 a0_2))) = some true := H
    have A28 := Aside0.mk A280
    clear A280
    have HC29 := Aside0.mk H
    clear H
    go_enter Try.func6, Try.ntmps6
    go_upto_region 21 with (first | ((with_reducible refine gate_dst (N := 4) rfl ?_); refine boxA #[.int .i64 a0_0, .int .i64 a0_1, .int .i64 a0_2] 23 ?_; intro gb890 hg w30 hbox hb; have BK890 := Aside0.mk (hbox); have GW890 := nge HB hg; have GE890 := nge HB hg; replace HB := bst HB hb; clear hb hbox hg) | ((with_reducible refine gate_callee (f := 33) rfl ?_); refine goesLA (some 20) rfl Try.func33 #[.slice A1 l1.length c1, .int .i64 1048576] ?_; (with_reducible refine (laws_szSetS.calls _ _ l1 1048576 t891 _ ?side1 ?side2 A5.out).mono ?_); (case side1 => exact qc (Kd.C_below HR1.out HB.out)); (case side2 => exact HC1.out); rintro e w' ⟨rfl, ⟨nd, rfl⟩⟩; refine ⟨_, rfl, ?_⟩) | ((with_reducible refine gate_callee (f := 34) rfl ?_); refine goesLA (some 25) rfl Try.func34 #[.slice A2 l2.length c2, .int .i64 t891] ?_; (with_reducible refine (laws_szIntSS.calls k _ _ l2 t891 t892 _ ?side1 ?side2 A8.out).mono ?_); (case side1 => repeat (first | exact (Kd.C_below HR2.out (qs HB)) | (with_reducible refine Kd.C_alloc ?_ _) | (with_reducible refine Kd.C_drewN ?_ _) | (with_reducible refine Kd.C_drew ?_))); (case side2 => exact HC2.out); rintro e w' ⟨rfl, ⟨nd, rfl⟩⟩; refine ⟨_, rfl, ?_⟩; have hcz31_0 := b0 BK890; have hcz31_1 := b1 BK890; have hcz31_2 := b2 BK890; have hfz31_0 := blk_frozen BK890.out 0; have hfz31_1 := blk_frozen BK890.out 1; have hfz31_2 := blk_frozen BK890.out 2) | ((with_reducible refine gate_callee (f := 13) rfl ?_); refine goesLA (some 29) rfl Try.func13 #[.agg #[.int .i64 a0_0, .int .i64 a0_1, .int .i64 a0_2]] ?_; (with_reducible refine (laws_toRules.calls a0_0 a0_1 a0_2 t893 t894 t895 _ A11.out).mono ?_); rintro e w32 ⟨rfl, hb⟩; refine ⟨_, rfl, ?_⟩; replace BK890 := bkb BK890 hb; replace HB := bst HB hb; clear hb) | ((with_reducible refine gate_callee (f := 36) rfl ?_); refine goesLA (some 31) rfl Try.func36 #[.slice A1 l1.length c1] ?_; (with_reducible refine (laws_toSetS.calls k _ _ l1 t896 _ ?side1 ?side2 A12.out).mono ?_); (case side1 => exact qc (Kd.C_below HR1.out HB.out)); (case side2 => exact HC1.out); rintro e w33 ⟨v897, rfl, ho0, hb⟩; refine ⟨_, rfl, ?_⟩; have HO898 := Aside0.mk (Kd.R_lower ho0 (below_size (qs HB))); replace BK890 := bkb BK890 hb; replace HB := bst HB hb; clear hb; (try clear ho0)) | ((with_reducible refine gate_callee (f := 37) rfl ?_); refine goesLA (some 33) rfl Try.func37 #[.slice A2 l2.length c2] ?_; (with_reducible refine (laws_toIntSS.calls k _ _ l2 t899 _ ?side1 ?side2 A13.out).mono ?_); (case side1 => exact qc (Kd.C_below HR2.out HB.out)); (case side2 => exact HC2.out); rintro e w34 ⟨v900, rfl, ho0, hb⟩; refine ⟨_, rfl, ?_⟩; replace HO898 := rbl HO898 hb; have HO901 := Aside0.mk (Kd.S_lower ho0 (below_size (qs HB))); replace BK890 := bkb BK890 hb; replace HB := bst HB hb; clear hb; (try clear ho0); obtain ⟨Ao35, co35, eo35⟩ := Kd.R_slice HO898.out; subst eo35; obtain ⟨Ao36, co36, eo36⟩ := Kd.S_slice HO901.out; subst eo36) | ((with_reducible refine gate_callee (f := 35) rfl ?_); refine goesLA (some 35) rfl Try.func35 #[.agg #[.int .i64 t893, .int .i64 t894, .int .i64 t895], .slice Ao35 t896.length co35, .slice Ao36 t899.length co36, .int .i64 a3] ?_; (with_reducible refine (spec_Run.calls t893 t894 t895 _ _ t896 _ _ t899 a3 t902 _ ?side1 ?side2 ?side3 ?side4 A14.out).mono ?_); (case side1 => exact qc (Kd.R_reads' HO898.out).2.2); (case side2 => exact (Kd.R_reads' HO898.out).2.1); (case side3 => repeat (first | exact (Kd.S_reads' HO901.out).2.2 | (with_reducible refine Kd.C_alloc ?_ _) | (with_reducible refine Kd.C_drewN ?_ _) | (with_reducible refine Kd.C_drew ?_))); (case side4 => exact (Kd.S_reads' HO901.out).2.1); rintro e w37 ⟨v903, rfl, ho0, hb⟩; refine ⟨_, rfl, ?_⟩; replace HO898 := rbl HO898 hb; replace HO901 := Aside0.mk (Kd.S_below (by (with_reducible repeat (first | apply Kd.S_alloc | apply Kd.S_drewN | apply Kd.S_drew)); exact HO901.out) hb); have HO904 := Aside0.mk (Kd.R_lower ho0 (below_size (qs HB))); replace BK890 := bkb BK890 hb; replace HB := bst HB hb; clear hb; (try clear ho0)) | ((with_reducible refine gate_callee (f := 36) rfl ?_); refine goesLA (some 37) rfl Try.func36 #[.slice A1 l1.length c1] ?_; (with_reducible refine (laws_toSetS.calls k _ _ l1 t905 _ ?side1 ?side2 A15.out).mono ?_); (case side1 => exact qc (Kd.C_below HR1.out HB.out)); (case side2 => exact HC1.out); rintro e w38 ⟨v906, rfl, ho0, hb⟩; refine ⟨_, rfl, ?_⟩; replace HO901 := Aside0.mk (Kd.S_below (by (with_reducible repeat (first | apply Kd.S_alloc | apply Kd.S_drewN | apply Kd.S_drew)); exact HO901.out) hb); replace HO904 := rbl HO904 hb; have HO907 := Aside0.mk (Kd.R_lower (Kd.R_new' ho0 (Kd.R_lt (qr HO898))) (below_size (qs HB))); replace HO898 := Aside0.mk (Kd.R_elder' (qr HO898) (Kd.R_base ho0) hb); replace BK890 := bkb BK890 hb; replace HB := bst HB hb; clear hb; (try clear ho0)) | ((with_reducible refine gate_callee (f := 37) rfl ?_); refine goesLA (some 39) rfl Try.func37 #[.slice A2 l2.length c2] ?_; (with_reducible refine (laws_toIntSS.calls k _ _ l2 t908 _ ?side1 ?side2 A16.out).mono ?_); (case side1 => exact qc (Kd.C_below HR2.out HB.out)); (case side2 => exact HC2.out); rintro e w39 ⟨v909, rfl, ho0, hb⟩; refine ⟨_, rfl, ?_⟩; replace HO898 := rbl HO898 hb; replace HO904 := rbl HO904 hb; replace HO907 := rbl HO907 hb; have HO910 := Aside0.mk (Kd.S_lower (Kd.S_new' ho0 (Kd.S_lt (by (with_reducible repeat (first | apply Kd.S_alloc | apply Kd.S_drewN | apply Kd.S_drew)); exact HO901.out))) (below_size (qs HB))); replace HO901 := Aside0.mk (Kd.S_elder' (by (with_reducible repeat (first | apply Kd.S_alloc | apply Kd.S_drewN | apply Kd.S_drew)); exact HO901.out) (Kd.S_base ho0) hb); replace BK890 := bkb BK890 hb; replace HB := bst HB hb; clear hb; (try clear ho0); have hcz40_0 := b0 BK890; have hcz40_1 := b1 BK890; have hcz40_2 := b2 BK890; have hfz40_0 := blk_frozen BK890.out 0; have hfz40_1 := blk_frozen BK890.out 1; have hfz40_2 := blk_frozen BK890.out 2) | ((with_reducible refine gate_callee (f := 13) rfl ?_); refine goesLA (some 41) rfl Try.func13 #[.agg #[.int .i64 a0_0, .int .i64 a0_1, .int .i64 a0_2]] ?_; (with_reducible refine (laws_toRules.calls a0_0 a0_1 a0_2 t911 t912 t913 _ A17.out).mono ?_); rintro e w41 ⟨rfl, hb⟩; refine ⟨_, rfl, ?_⟩; replace HO898 := rbl HO898 hb; replace HO901 := Aside0.mk (Kd.S_below (by (with_reducible repeat (first | apply Kd.S_alloc | apply Kd.S_drewN | apply Kd.S_drew)); exact HO901.out) hb); replace HO904 := rbl HO904 hb; replace HO907 := rbl HO907 hb; replace HO910 := Aside0.mk (Kd.S_below (by (with_reducible repeat (first | apply Kd.S_alloc | apply Kd.S_drewN | apply Kd.S_drew)); exact HO910.out) hb); replace BK890 := bkb BK890 hb; replace HB := bst HB hb; clear hb; obtain ⟨Ao42, co42, eo42⟩ := Kd.R_slice HO907.out; subst eo42; obtain ⟨Ao43, co43, eo43⟩ := Kd.S_slice HO910.out; subst eo43) | ((with_reducible refine gate_callee (f := 38) rfl ?_); refine goesLA (some 45) rfl Try.func38 #[.agg #[.int .i64 t911, .int .i64 t912, .int .i64 t913], .slice Ao42 t905.length co42, .slice Ao43 t908.length co43, .int .i64 a3] ?_; (with_reducible refine (impl_RunA.calls t911 t912 t913 _ _ t905 _ _ t908 a3 t914 _ ?side1 ?side2 ?side3 ?side4 A18.out).mono ?_); (case side1 => exact qc (Kd.R_reads' HO907.out).2.2); (case side2 => exact (Kd.R_reads' HO907.out).2.1); (case side3 => repeat (first | exact (Kd.S_reads' HO910.out).2.2 | (with_reducible refine Kd.C_alloc ?_ _) | (with_reducible refine Kd.C_drewN ?_ _) | (with_reducible refine Kd.C_drew ?_))); (case side4 => exact (Kd.S_reads' HO910.out).2.1); rintro e w44 ⟨v915, rfl, ho0, hb⟩; refine ⟨_, rfl, ?_⟩; replace HO898 := rbl HO898 hb; replace HO901 := Aside0.mk (Kd.S_below (by (with_reducible repeat (first | apply Kd.S_alloc | apply Kd.S_drewN | apply Kd.S_drew)); exact HO901.out) hb); replace HO907 := rbl HO907 hb; replace HO910 := Aside0.mk (Kd.S_below (by (with_reducible repeat (first | apply Kd.S_alloc | apply Kd.S_drewN | apply Kd.S_drew)); exact HO910.out) hb); have HO916 := Aside0.mk (Kd.R_lower (Kd.R_new' ho0 (Kd.R_lt (qr HO904))) (below_size (qs HB))); replace HO904 := Aside0.mk (Kd.R_elder' (qr HO904) (Kd.R_base ho0) hb); replace BK890 := bkb BK890 hb; replace HB := bst HB hb; clear hb; (try clear ho0); obtain ⟨Ao45, co45, eo45⟩ := Kd.R_slice HO916.out; subst eo45; obtain ⟨Ao46, co46, eo46⟩ := Kd.R_slice HO904.out; subst eo46) | ((with_reducible refine gate_callee (f := 39) rfl ?_); refine goesLA (some 48) rfl Try.func39 #[.slice Ao45 t914.length co45, .slice Ao46 t902.length co46] ?_; (with_reducible refine (laws_eqMomentS.calls k _ _ t914 _ _ t902 true _ ?side1 ?side2 ?side3 ?side4 A19.out).mono ?_); (case side1 => exact qc (Kd.R_reads' HO916.out).2.2); (case side2 => exact (Kd.R_reads' HO916.out).2.1); (case side3 => exact qc (Kd.R_reads' HO904.out).2.2); (case side4 => exact (Kd.R_reads' HO904.out).2.1); rintro e w47 ⟨rfl, hb⟩; refine ⟨_, rfl, ?_⟩; replace HO898 := rbl HO898 hb; replace HO901 := Aside0.mk (Kd.S_below (by (with_reducible repeat (first | apply Kd.S_alloc | apply Kd.S_drewN | apply Kd.S_drew)); exact HO901.out) hb); replace HO904 := rbl HO904 hb; replace HO907 := rbl HO907 hb; replace HO910 := Aside0.mk (Kd.S_below (by (with_reducible repeat (first | apply Kd.S_alloc | apply Kd.S_drewN | apply Kd.S_drew)); exact HO910.out) hb); replace HO916 := rbl HO916 hb; replace BK890 := bkb BK890 hb; replace HB := bst HB hb; clear hb) | ((with_reducible refine gate_callee (f := 36) rfl ?_); refine goesLA (some 52) rfl Try.func36 #[.slice A1 l1.length c1] ?_; (with_reducible refine (laws_toSetS.calls k _ _ l1 t918 _ ?side1 ?side2 A21.out).mono ?_); (case side1 => exact qc (Kd.C_below HR1.out HB.out)); (case side2 => exact HC1.out); rintro e w48 ⟨v919, rfl, ho0, hb⟩; refine ⟨_, rfl, ?_⟩; replace HO901 := Aside0.mk (Kd.S_below (by (with_reducible repeat (first | apply Kd.S_alloc | apply Kd.S_drewN | apply Kd.S_drew)); exact HO901.out) hb); replace HO904 := rbl HO904 hb; replace HO910 := Aside0.mk (Kd.S_below (by (with_reducible repeat (first | apply Kd.S_alloc | apply Kd.S_drewN | apply Kd.S_drew)); exact HO910.out) hb); replace HO916 := rbl HO916 hb; have HO920 := Aside0.mk (Kd.R_lower (Kd.R_new' (Kd.R_new' ho0 (Kd.R_lt (qr HO898))) (Kd.R_lt (qr HO907))) (below_size (qs HB))); replace HO898 := Aside0.mk (Kd.R_elder' (qr HO898) (Kd.R_base ho0) hb); replace HO907 := Aside0.mk (Kd.R_elder' (qr HO907) (Kd.R_base ho0) hb); replace BK890 := bkb BK890 hb; replace HB := bst HB hb; clear hb; (try clear ho0); obtain ⟨Ao49, co49, eo49⟩ := Kd.R_slice HO920.out; subst eo49) | ((with_reducible refine gate_callee (f := 40) rfl ?_); refine goesLA (some 53) rfl Try.func40 #[.slice Ao42 t905.length co42, .slice Ao49 t918.length co49] ?_; (with_reducible refine (laws_eqSetS.calls k _ _ t905 _ _ t918 true _ ?side1 ?side2 ?side3 ?side4 A22.out).mono ?_); (case side1 => exact qc (Kd.R_reads' HO907.out).2.2); (case side2 => exact (Kd.R_reads' HO907.out).2.1); (case side3 => exact qc (Kd.R_reads' HO920.out).2.2); (case side4 => exact (Kd.R_reads' HO920.out).2.1); rintro e w50 ⟨rfl, hb⟩; refine ⟨_, rfl, ?_⟩; replace HO898 := rbl HO898 hb; replace HO901 := Aside0.mk (Kd.S_below (by (with_reducible repeat (first | apply Kd.S_alloc | apply Kd.S_drewN | apply Kd.S_drew)); exact HO901.out) hb); replace HO904 := rbl HO904 hb; replace HO907 := rbl HO907 hb; replace HO910 := Aside0.mk (Kd.S_below (by (with_reducible repeat (first | apply Kd.S_alloc | apply Kd.S_drewN | apply Kd.S_drew)); exact HO910.out) hb); replace HO916 := rbl HO916 hb; replace HO920 := rbl HO920 hb; replace BK890 := bkb BK890 hb; replace HB := bst HB hb; clear hb) | ((with_reducible refine gate_callee (f := 37) rfl ?_); refine goesLA (some 57) rfl Try.func37 #[.slice A2 l2.length c2] ?_; (with_reducible refine (laws_toIntSS.calls k _ _ l2 t922 _ ?side1 ?side2 A24.out).mono ?_); (case side1 => exact qc (Kd.C_below HR2.out HB.out)); (case side2 => exact HC2.out); rintro e w51 ⟨v923, rfl, ho0, hb⟩; refine ⟨_, rfl, ?_⟩; replace HO898 := rbl HO898 hb; replace HO904 := rbl HO904 hb; replace HO907 := rbl HO907 hb; replace HO916 := rbl HO916 hb; replace HO920 := rbl HO920 hb; have HO924 := Aside0.mk (Kd.S_lower (Kd.S_new' (Kd.S_new' ho0 (Kd.S_lt (by (with_reducible repeat (first | apply Kd.S_alloc | apply Kd.S_drewN | apply Kd.S_drew)); exact HO901.out))) (Kd.S_lt (by (with_reducible repeat (first | apply Kd.S_alloc | apply Kd.S_drewN | apply Kd.S_drew)); exact HO910.out))) (below_size (qs HB))); replace HO901 := Aside0.mk (Kd.S_elder' (by (with_reducible repeat (first | apply Kd.S_alloc | apply Kd.S_drewN | apply Kd.S_drew)); exact HO901.out) (Kd.S_base ho0) hb); replace HO910 := Aside0.mk (Kd.S_elder' (by (with_reducible repeat (first | apply Kd.S_alloc | apply Kd.S_drewN | apply Kd.S_drew)); exact HO910.out) (Kd.S_base ho0) hb); replace BK890 := bkb BK890 hb; replace HB := bst HB hb; clear hb; (try clear ho0); obtain ⟨Ao52, co52, eo52⟩ := Kd.S_slice HO924.out; subst eo52) | ((with_reducible refine gate_callee (f := 41) rfl ?_); refine goesLA (some 58) rfl Try.func41 #[.slice Ao43 t908.length co43, .slice Ao52 t922.length co52] ?_; (with_reducible refine (laws_eqIntSS.calls k _ _ t908 _ _ t922 true _ ?side1 ?side2 ?side3 ?side4 A25.out).mono ?_); (case side1 => repeat (first | exact (Kd.S_reads' HO910.out).2.2 | (with_reducible refine Kd.C_alloc ?_ _) | (with_reducible refine Kd.C_drewN ?_ _) | (with_reducible refine Kd.C_drew ?_))); (case side2 => exact (Kd.S_reads' HO910.out).2.1); (case side3 => repeat (first | exact (Kd.S_reads' HO924.out).2.2 | (with_reducible refine Kd.C_alloc ?_ _) | (with_reducible refine Kd.C_drewN ?_ _) | (with_reducible refine Kd.C_drew ?_))); (case side4 => exact (Kd.S_reads' HO924.out).2.1); rintro e w' ⟨rfl, ⟨nd, rfl⟩⟩; refine ⟨_, rfl, ?_⟩) | ((with_reducible refine gate_callee (f := 42) rfl ?_); refine goesLA (some 62) rfl Try.func42 #[.slice Ao42 t905.length co42, .int .i64 1] ?_; (with_reducible refine (laws_markSetS.calls k (fun k_ => some k_ = (.slice Ao42 t905.length co42 : Value).ownBlock) (.slice Ao42 t905.length co42) t905 1 t926 t927 w _ ?side1 ?side2 A27.out).mono ?_); (case side1 => exact qs HB); (case side2 => exact Kd.R_tight rfl HO907.out); rintro e w53 ⟨rfl, hy0, hb, hkp⟩; refine ⟨_, rfl, ?_⟩; replace BK890 := Aside0.mk (blk_kept (qb BK890) hkp (fun hs_ => (fun e_ => (Kd.R_ne HO907.out BK890.out (by decide)) e_) hs_)); replace HO898 := Aside0.mk (Kd.R_mono (ok' := fun k_ => some k_ ≠ (.slice Ao42 t905.length co42 : Value).ownBlock ∧ some k_ ≠ (.slice Ao49 t918.length co49 : Value).ownBlock) (Kd.R_keptB (HO898.out) hkp (fun k_ hk_ hs_ => (hk_.1.2) hs_)) (fun k_ hk_ => ⟨hk_.1.1.2, hk_.1.2⟩)); replace HO901 := Aside0.mk (Kd.S_mono (ok' := fun k_ => some k_ ≠ (.slice Ao43 t908.length co43 : Value).ownBlock ∧ some k_ ≠ (.slice Ao52 t922.length co52 : Value).ownBlock) (Kd.S_keptB ((Kd.S_apart' HO901.out (Kd.R_typed HO907.out) (by decide))) hkp (fun k_ hk_ hs_ => (hk_.2) hs_)) (fun k_ hk_ => ⟨hk_.1.1.1.2, hk_.1.1.2⟩)); replace HO904 := Aside0.mk (Kd.R_mono (ok' := fun k_ => some k_ ≠ (.slice Ao45 t914.length co45 : Value).ownBlock) (Kd.R_keptB ((Kd.R_apart' HO904.out (Kd.R_typed HO907.out) (by decide))) hkp (fun k_ hk_ hs_ => (hk_.2) hs_)) (fun k_ hk_ => hk_.1.1.2)); replace HO910 := Aside0.mk (Kd.S_mono (ok' := fun k_ => some k_ ≠ (.slice Ao36 t899.length co36 : Value).ownBlock ∧ some k_ ≠ (.slice Ao52 t922.length co52 : Value).ownBlock) (Kd.S_keptB ((Kd.S_apart' HO910.out (Kd.R_typed HO907.out) (by decide))) hkp (fun k_ hk_ hs_ => (hk_.2) hs_)) (fun k_ hk_ => ⟨hk_.1.1.1.2, hk_.1.1.2⟩)); replace HO916 := Aside0.mk (Kd.R_mono (ok' := fun k_ => some k_ ≠ (.slice Ao46 t902.length co46 : Value).ownBlock) (Kd.R_keptB ((Kd.R_apart' HO916.out (Kd.R_typed HO907.out) (by decide))) hkp (fun k_ hk_ hs_ => (hk_.2) hs_)) (fun k_ hk_ => hk_.1.1.2)); replace HO920 := Aside0.mk (Kd.R_mono (ok' := fun k_ => some k_ ≠ (.slice Ao35 t896.length co35 : Value).ownBlock ∧ some k_ ≠ (.slice Ao42 t905.length co42 : Value).ownBlock) (Kd.R_keptB (HO920.out) hkp (fun k_ hk_ hs_ => (hk_.2) hs_)) (fun k_ hk_ => ⟨hk_.1.1.2, hk_.1.2⟩)); replace HO924 := Aside0.mk (Kd.S_mono (ok' := fun k_ => some k_ ≠ (.slice Ao36 t899.length co36 : Value).ownBlock ∧ some k_ ≠ (.slice Ao43 t908.length co43 : Value).ownBlock) (Kd.S_keptB ((Kd.S_apart' HO924.out (Kd.R_typed HO907.out) (by decide))) hkp (fun k_ hk_ hs_ => (hk_.2) hs_)) (fun k_ hk_ => ⟨hk_.1.1.1.2, hk_.1.1.2⟩)); replace HO907 := Aside0.mk (Kd.R_reok rfl hy0 (fun k_ e_ => HO907.out.1 k_ e_)); replace HB := Aside0.mk (hb); (try clear hb); (try clear hkp); (try clear hy0)) | ((with_reducible refine gate_callee (f := 43) rfl ?_); refine goesLA (some 65) rfl Try.func43 #[.slice Ao43 t908.length co43, .int .i64 t926] ?_; have hS_ := Kd.S_bound HO910.out; (refine (laws_markIntSS.calls k _ Ao43 co43 t908 t926 t928 w _ ?side1 hS_ A28.out).mono ?_); (case side1 => exact qs HB); rintro e w54 ⟨rfl, hb, hkp⟩; refine ⟨_, rfl, ?_⟩; replace BK890 := Aside0.mk (blk_other (qb BK890) hkp (by decide)); replace HO904 := Aside0.mk (R_other HO904.out hkp (by decide)); replace HO916 := Aside0.mk (R_other HO916.out hkp (by decide)); replace HB := Aside0.mk hb; clear hS_ hb hkp HO898 HO901 HO907 HO910 HO920 HO924))
    (try simp only [Act.put, List.setIfInBounds_toArray, List.set_cons_zero, List.set_cons_succ])
    go_cut [73] (fun v73 wc => ∃ (kq : Nat) (x73_28 : Bool), v73 = .bool x73_28 ∧ Aside0 (laws_FnExactRun.j0 kq l1 l2 a3 t902 t914 x73_28 a0_0 a0_1 a0_2 = some true) ∧ Aside0 (kq ≤ k) ∧ Aside0 (Kd.R k86 86 wc w.heap.size (fun k_ => some k_ ≠ ((.slice Ao45 t914.length co45) : Value).ownBlock) (.slice Ao46 t902.length co46) t902) ∧ Aside0 (Kd.R k86 86 wc w.heap.size (fun k_ => some k_ ≠ ((.slice Ao46 t902.length co46) : Value).ownBlock) (.slice Ao45 t914.length co45) t914) ∧ Aside0 (wc.heap[gb890]? = some (.cells #[.int .i64 a0_0, .int .i64 a0_1, .int .i64 a0_2] 23 (0, 0))) ∧ Aside0 (Below w.heap.size w wc))
    case first =>
     have H := HC29.out
     clear HC29
     by_cases c54 : t928 < 0
     ·rw [if_pos c54] at H
      have c54b0 : decide (t928 < 0) = true := decide_eq_true c54
      clear c54
      (first | rw [c54b0] | (simp only [i64_w, i32_w]; rw [c54b0]) | skip)
      have H' := Aside0.mk H
      clear H
      go_wp2
      go_meet
      case rel => exact ⟨_, (true), (by first | rfl | (simp; done) | (simp [*]; done)), H', ⟨by first | omega | exact Nat.le_refl _⟩, ⟨by (with_reducible repeat (first | apply Kd.R_alloc | apply Kd.R_drewN | apply Kd.R_drew)); exact HO904.out⟩, ⟨by (with_reducible repeat (first | apply Kd.R_alloc | apply Kd.R_drewN | apply Kd.R_drew)); exact HO916.out⟩, ⟨qb BK890⟩, ⟨(qs HB)⟩⟩
     rw [if_neg c54] at H
     have c54b0 : decide (t928 < 0) = false := decide_eq_false c54
     clear c54
     (first | rw [c54b0] | (simp only [i64_w, i32_w]; rw [c54b0]) | skip)
     replace H := Option.bind_eq_some_iff.mp H
     obtain ⟨t929, A550, H⟩ := H
     replace H : (laws_FnExactRun.j0 k l1 l2 a3 t902 t914 (!t929) a0_0 a0_1 a0_2) = some true := H
     have A55 := Aside0.mk A550
     clear A550
     have H' := Aside0.mk H
     clear H
     go_wp2_with (first | (go_at_call 39; (with_reducible refine (laws_eqMomentS.calls k _ _ t914 _ _ t902 t929 _ ?side1 ?side2 ?side3 ?side4 A55.out).mono ?_); (case side1 => exact qc (Kd.R_reads' HO916.out).2.2); (case side2 => exact (Kd.R_reads' HO916.out).2.1); (case side3 => exact qc (Kd.R_reads' HO904.out).2.2); (case side4 => exact (Kd.R_reads' HO904.out).2.1); rintro e w56 ⟨rfl, hb⟩; replace HO904 := rbl HO904 hb; replace HO916 := rbl HO916 hb; replace BK890 := bkb BK890 hb; replace HB := bst HB hb; clear hb))
     go_meet
     case rel => exact ⟨_, (!t929), (by first | rfl | (simp; done) | (simp [*]; done)), H', ⟨by first | omega | exact Nat.le_refl _⟩, ⟨by (with_reducible repeat (first | apply Kd.R_alloc | apply Kd.R_drewN | apply Kd.R_drew)); exact HO904.out⟩, ⟨by (with_reducible repeat (first | apply Kd.R_alloc | apply Kd.R_drewN | apply Kd.R_drew)); exact HO916.out⟩, ⟨qb BK890⟩, ⟨(qs HB)⟩⟩
    case rest =>
     clear HC29
     try clear c1; try clear c2; try clear p2; try clear c3; try clear c4; try clear c5; try clear c6; try clear c6b0; try clear c9; try clear c9b0; try clear c13; try clear c20; try clear c23; try clear c26; try clear c33; try clear c34; try clear c35; try clear c36; try clear c37; try clear c38; try clear c39; try clear c40; try clear c41; try clear c42; try clear c43; try clear c54; try clear c54b0; try clear hcz31_0; try clear hcz31_1; try clear hcz31_2; try clear hcz40_0; try clear hcz40_1; try clear hcz40_2; try clear hfz31_0; try clear hfz31_1; try clear hfz31_2; try clear hfz40_0; try clear hfz40_1; try clear hfz40_2
     obtain ⟨kq, x73_28, rfl, HA, HJ28, HO_10, HO_13, BK890, HB⟩ := hcut
     cases kq with
     | zero => exact absurd HA.out (by simp [laws_FnExactRun.j0])
     | succ kj28 =>
      have H := HA.out
      clear HA
      simp only [laws_FnExactRun.j0] at H
      by_cases c57 : x73_28 = true
      ·subst c57
       have H1 : (some false) = some true := by rw [if_pos rfl] at H; exact H
       clear H; have H := H1; clear H1
       exact absurd H (by simp)
      replace c57 := Bool.eq_false_iff.mpr c57
      subst c57
      have H1 : ((laws_markMomentS.f kj28 t914 1).bind fun bt930 => ((laws_heldMomentS.f kj28 bt930.2 1).bind fun t932 => (if t932 < 0 then (some false) else (if t932 = bt930.1 then ((laws_toRules.f a0_0 a0_1 a0_2).bind fun bt933 => ((laws_toSetS.f kj28 l1).bind fun t936 => ((laws_toIntSS.f kj28 l2).bind fun t939 => ((impl_RunA.f bt933.1 bt933.2.1 bt933.2.2 t936 t939 a3).bind fun t942 => ((laws_eqMomentS.f kj28 t942 t902).bind fun t945 => (if t945 = true then ((laws_heldMomentS.f kj28 bt930.2 1).bind fun t946 => (if t946 < 0 then (some false) else (if t946 = bt930.1 then (some true) else (some false)))) else (some false))))))) else (some false))))) = some true := by rw [if_neg (show ¬ (false = true) by decide)] at H; exact H
      clear H; have H := H1; clear H1
      replace H := Option.bind_eq_some_iff.mp H
      obtain ⟨⟨t930, t931⟩, A580, H⟩ := H
      replace H : ((laws_heldMomentS.f kj28 t931 1).bind fun t932 => (if t932 < 0 then (some false) else (if t932 = t930 then ((laws_toRules.f a0_0 a0_1 a0_2).bind fun bt933 => ((laws_toSetS.f kj28 l1).bind fun t936 => ((laws_toIntSS.f kj28 l2).bind fun t939 => ((impl_RunA.f bt933.1 bt933.2.1 bt933.2.2 t936 t939 a3).bind fun t942 => ((laws_eqMomentS.f kj28 t942 t902).bind fun t945 => (if t945 = true then ((laws_heldMomentS.f kj28 t931 1).bind fun t946 => (if t946 < 0 then (some false) else (if t946 = t930 then (some true) else (some false)))) else (some false))))))) else (some false)))) = some true := H
      have A58 := Aside0.mk A580
      clear A580
      replace H := Option.bind_eq_some_iff.mp H
      obtain ⟨t932, A590, H⟩ := H
      replace H : (if t932 < 0 then (some false) else (if t932 = t930 then ((laws_toRules.f a0_0 a0_1 a0_2).bind fun bt933 => ((laws_toSetS.f kj28 l1).bind fun t936 => ((laws_toIntSS.f kj28 l2).bind fun t939 => ((impl_RunA.f bt933.1 bt933.2.1 bt933.2.2 t936 t939 a3).bind fun t942 => ((laws_eqMomentS.f kj28 t942 t902).bind fun t945 => (if t945 = true then ((laws_heldMomentS.f kj28 t931 1).bind fun t946 => (if t946 < 0 then (some false) else (if t946 = t930 then (some true) else (some false)))) else (some false))))))) else (some false))) = some true := H
      have A59 := Aside0.mk A590
      clear A590
      by_cases c60 : t932 < 0
      ·rw [if_pos c60] at H
       have c60b0 : decide (t932 < 0) = true := decide_eq_true c60
       clear c60
       exact absurd H (by simp)
      rw [if_neg c60] at H
      have c60b0 : decide (t932 < 0) = false := decide_eq_false c60
      clear c60
      by_cases c61 : t932 = t930
      ·rw [if_pos c61] at H
       have c61b0 : (t932 == t930) = true := beq_iff_eq.mpr c61
       have c61b1 : (t932 != t930) = false := bne_eq_false_iff_eq.mpr c61
       clear c61
       replace H := Option.bind_eq_some_iff.mp H
       obtain ⟨⟨t933, t934, t935⟩, A620, H⟩ := H
       replace H : ((laws_toSetS.f kj28 l1).bind fun t936 => ((laws_toIntSS.f kj28 l2).bind fun t939 => ((impl_RunA.f t933 t934 t935 t936 t939 a3).bind fun t942 => ((laws_eqMomentS.f kj28 t942 t902).bind fun t945 => (if t945 = true then ((laws_heldMomentS.f kj28 t931 1).bind fun t946 => (if t946 < 0 then (some false) else (if t946 = t930 then (some true) else (some false)))) else (some false)))))) = some true := H
       have A62 := Aside0.mk A620
       clear A620
       replace H := Option.bind_eq_some_iff.mp H
       obtain ⟨t936, A630, H⟩ := H
       replace H : ((laws_toIntSS.f kj28 l2).bind fun t939 => ((impl_RunA.f t933 t934 t935 t936 t939 a3).bind fun t942 => ((laws_eqMomentS.f kj28 t942 t902).bind fun t945 => (if t945 = true then ((laws_heldMomentS.f kj28 t931 1).bind fun t946 => (if t946 < 0 then (some false) else (if t946 = t930 then (some true) else (some false)))) else (some false))))) = some true := H
       have A63 := Aside0.mk A630
       clear A630
       replace H := Option.bind_eq_some_iff.mp H
       obtain ⟨t939, A640, H⟩ := H
       replace H : ((impl_RunA.f t933 t934 t935 t936 t939 a3).bind fun t942 => ((laws_eqMomentS.f kj28 t942 t902).bind fun t945 => (if t945 = true then ((laws_heldMomentS.f kj28 t931 1).bind fun t946 => (if t946 < 0 then (some false) else (if t946 = t930 then (some true) else (some false)))) else (some false)))) = some true := H
       have A64 := Aside0.mk A640
       clear A640
       replace H := Option.bind_eq_some_iff.mp H
       obtain ⟨t942, A650, H⟩ := H
       replace H : ((laws_eqMomentS.f kj28 t942 t902).bind fun t945 => (if t945 = true then ((laws_heldMomentS.f kj28 t931 1).bind fun t946 => (if t946 < 0 then (some false) else (if t946 = t930 then (some true) else (some false)))) else (some false))) = some true := H
       have A65 := Aside0.mk A650
       clear A650
       replace H := Option.bind_eq_some_iff.mp H
       obtain ⟨t945, A660, H⟩ := H
       replace H : (if t945 = true then ((laws_heldMomentS.f kj28 t931 1).bind fun t946 => (if t946 < 0 then (some false) else (if t946 = t930 then (some true) else (some false)))) else (some false)) = some true := H
       have A66 := Aside0.mk A660
       clear A660
       by_cases c67 : t945 = true
       ·subst c67
        have H1 : ((laws_heldMomentS.f kj28 t931 1).bind fun t946 => (if t946 < 0 then (some false) else (if t946 = t930 then (some true) else (some false)))) = some true := by rw [if_pos rfl] at H; exact H
        clear H; have H := H1; clear H1
        replace H := Option.bind_eq_some_iff.mp H
        obtain ⟨t946, A680, H⟩ := H
        replace H : (if t946 < 0 then (some false) else (if t946 = t930 then (some true) else (some false))) = some true := H
        have A68 := Aside0.mk A680
        clear A680
        by_cases c69 : t946 < 0
        ·rw [if_pos c69] at H
         have c69b0 : decide (t946 < 0) = true := decide_eq_true c69
         clear c69
         exact absurd H (by simp)
        rw [if_neg c69] at H
        have c69b0 : decide (t946 < 0) = false := decide_eq_false c69
        clear c69
        by_cases c70 : t946 = t930
        ·rw [if_pos c70] at H
         have c70b0 : (t946 == t930) = true := beq_iff_eq.mpr c70
         have c70b1 : (t946 != t930) = false := bne_eq_false_iff_eq.mpr c70
         clear c70
         go_wp2_with (first | ((with_reducible refine gate_callee (f := 44) rfl ?_); refine goesLA (some 76) rfl Try.func44 #[.slice Ao45 t914.length co45, .int .i64 1] ?_; (with_reducible refine (laws_markMomentS.calls kj28 (fun k_ => some k_ = (.slice Ao45 t914.length co45 : Value).ownBlock) (.slice Ao45 t914.length co45) t914 1 t930 t931 w _ ?side1 ?side2 A58.out).mono ?_); (case side1 => exact qs HB); (case side2 => exact Kd.R_tight rfl HO_13.out); rintro e w71 ⟨rfl, hy0, hb, hkp⟩; refine ⟨_, rfl, ?_⟩; replace HO_10 := Aside0.mk (Kd.R_mono (ok' := fun k_ => some k_ ≠ (.slice Ao45 t914.length co45 : Value).ownBlock) (Kd.R_keptB (HO_10.out) hkp (fun k_ hk_ hs_ => (hk_) hs_)) (fun k_ hk_ => hk_.1)); replace BK890 := Aside0.mk (blk_kept (qb BK890) hkp (fun hs_ => (fun e_ => (Kd.R_ne HO_13.out BK890.out (by decide)) e_) hs_)); replace HO_13 := Aside0.mk (Kd.R_reok rfl hy0 (fun k_ e_ => HO_13.out.1 k_ e_)); replace HB := Aside0.mk (hb); (try clear hb); (try clear hkp); (try clear hy0)) | ((with_reducible refine gate_callee (f := 45) rfl ?_); refine goesL_ (some 79) rfl rfl Try.func45 (by kernel_rfl) rfl #[.slice Ao45 t931.length co45, .int .i64 1] rfl (by (try simp only [List.map_toArray, List.map_cons, List.map_nil]); first | done | (rw [show t931.length = t914.length from (Kd.R_reads' HO_13.out).1.symm] <;> rfl) | rfl | (simp only [List.length_drop, List.length_take]; rfl)) ?_; (with_reducible refine (laws_heldMomentS.calls kj28 _ _ t931 1 t932 _ ?side1 ?side2 A59.out).mono ?_); (case side1 => exact qc (Kd.R_reads' HO_13.out).2.2); (case side2 => rw [show t931.length = t914.length from (Kd.R_reads' HO_13.out).1.symm]; exact (Kd.R_reads' HO_13.out).2.1); rintro e w' ⟨rfl, ⟨nd, rfl⟩⟩; refine ⟨_, rfl, ?_⟩; have hcz72_0 := b0 BK890; have hcz72_1 := b1 BK890; have hcz72_2 := b2 BK890; have hfz72_0 := blk_frozen BK890.out 0; have hfz72_1 := blk_frozen BK890.out 1; have hfz72_2 := blk_frozen BK890.out 2) | ((with_reducible refine gate_callee (f := 13) rfl ?_); refine goesLA (some 86) rfl Try.func13 #[.agg #[.int .i64 a0_0, .int .i64 a0_1, .int .i64 a0_2]] ?_; (with_reducible refine (laws_toRules.calls a0_0 a0_1 a0_2 t933 t934 t935 _ A62.out).mono ?_); rintro e w73 ⟨rfl, hb⟩; refine ⟨_, rfl, ?_⟩; replace HO_10 := rbl HO_10 hb; replace HO_13 := rbl HO_13 hb; replace BK890 := bkb BK890 hb; replace HB := bst HB hb; clear hb) | ((with_reducible refine gate_callee (f := 36) rfl ?_); refine goesLA (some 88) rfl Try.func36 #[.slice A1 l1.length c1] ?_; (with_reducible refine (laws_toSetS.calls kj28 _ _ l1 t936 _ ?side1 ?side2 A63.out).mono ?_); (case side1 => exact qc (Kd.C_below HR1.out HB.out)); (case side2 => exact HC1.out); rintro e w74 ⟨v937, rfl, ho0, hb⟩; refine ⟨_, rfl, ?_⟩; replace HO_10 := rbl HO_10 hb; replace HO_13 := rbl HO_13 hb; have HO938 := Aside0.mk (Kd.R_lower ho0 (below_size (qs HB))); replace BK890 := bkb BK890 hb; replace HB := bst HB hb; clear hb; (try clear ho0)) | ((with_reducible refine gate_callee (f := 37) rfl ?_); refine goesLA (some 90) rfl Try.func37 #[.slice A2 l2.length c2] ?_; (with_reducible refine (laws_toIntSS.calls kj28 _ _ l2 t939 _ ?side1 ?side2 A64.out).mono ?_); (case side1 => exact qc (Kd.C_below HR2.out HB.out)); (case side2 => exact HC2.out); rintro e w75 ⟨v940, rfl, ho0, hb⟩; refine ⟨_, rfl, ?_⟩; replace HO_10 := rbl HO_10 hb; replace HO_13 := rbl HO_13 hb; replace HO938 := rbl HO938 hb; have HO941 := Aside0.mk (Kd.S_lower ho0 (below_size (qs HB))); replace BK890 := bkb BK890 hb; replace HB := bst HB hb; clear hb; (try clear ho0); obtain ⟨Ao76, co76, eo76⟩ := Kd.R_slice HO938.out; subst eo76; obtain ⟨Ao77, co77, eo77⟩ := Kd.S_slice HO941.out; subst eo77) | ((with_reducible refine gate_callee (f := 38) rfl ?_); refine goesLA (some 92) rfl Try.func38 #[.agg #[.int .i64 t933, .int .i64 t934, .int .i64 t935], .slice Ao76 t936.length co76, .slice Ao77 t939.length co77, .int .i64 a3] ?_; (with_reducible refine (impl_RunA.calls t933 t934 t935 _ _ t936 _ _ t939 a3 t942 _ ?side1 ?side2 ?side3 ?side4 A65.out).mono ?_); (case side1 => exact qc (Kd.R_reads' HO938.out).2.2); (case side2 => exact (Kd.R_reads' HO938.out).2.1); (case side3 => repeat (first | exact (Kd.S_reads' HO941.out).2.2 | (with_reducible refine Kd.C_alloc ?_ _) | (with_reducible refine Kd.C_drewN ?_ _) | (with_reducible refine Kd.C_drew ?_))); (case side4 => exact (Kd.S_reads' HO941.out).2.1); rintro e w78 ⟨v943, rfl, ho0, hb⟩; refine ⟨_, rfl, ?_⟩; replace HO938 := rbl HO938 hb; replace HO941 := Aside0.mk (Kd.S_below (by (with_reducible repeat (first | apply Kd.S_alloc | apply Kd.S_drewN | apply Kd.S_drew)); exact HO941.out) hb); have HO944 := Aside0.mk (Kd.R_lower (Kd.R_new' (Kd.R_new' ho0 (Kd.R_lt (qr HO_10))) (Kd.R_lt (qr HO_13))) (below_size (qs HB))); replace HO_10 := Aside0.mk (Kd.R_elder' (qr HO_10) (Kd.R_base ho0) hb); replace HO_13 := Aside0.mk (Kd.R_elder' (qr HO_13) (Kd.R_base ho0) hb); replace BK890 := bkb BK890 hb; replace HB := bst HB hb; clear hb; (try clear ho0); obtain ⟨Ao79, co79, eo79⟩ := Kd.R_slice HO944.out; subst eo79) | ((with_reducible refine gate_callee (f := 39) rfl ?_); refine goesLA (some 95) rfl Try.func39 #[.slice Ao79 t942.length co79, .slice Ao46 t902.length co46] ?_; (with_reducible refine (laws_eqMomentS.calls kj28 _ _ t942 _ _ t902 true _ ?side1 ?side2 ?side3 ?side4 A66.out).mono ?_); (case side1 => exact qc (Kd.R_reads' HO944.out).2.2); (case side2 => exact (Kd.R_reads' HO944.out).2.1); (case side3 => exact qc (Kd.R_reads' HO_10.out).2.2); (case side4 => exact (Kd.R_reads' HO_10.out).2.1); rintro e w80 ⟨rfl, hb⟩; refine ⟨_, rfl, ?_⟩; replace HO_10 := rbl HO_10 hb; replace HO_13 := rbl HO_13 hb; replace HO938 := rbl HO938 hb; replace HO941 := Aside0.mk (Kd.S_below (by (with_reducible repeat (first | apply Kd.S_alloc | apply Kd.S_drewN | apply Kd.S_drew)); exact HO941.out) hb); replace HO944 := rbl HO944 hb; replace BK890 := bkb BK890 hb; replace HB := bst HB hb; clear hb) | ((with_reducible refine gate_callee (f := 45) rfl ?_); refine goesL_ (some 99) rfl rfl Try.func45 (by kernel_rfl) rfl #[.slice Ao45 t931.length co45, .int .i64 1] rfl (by (try simp only [List.map_toArray, List.map_cons, List.map_nil]); first | done | (rw [show t931.length = t914.length from (Kd.R_reads' HO_13.out).1.symm] <;> rfl) | rfl | (simp only [List.length_drop, List.length_take]; rfl)) ?_; (with_reducible refine (laws_heldMomentS.calls kj28 _ _ t931 1 t946 _ ?side1 ?side2 A68.out).mono ?_); (case side1 => exact qc (Kd.R_reads' HO_13.out).2.2); (case side2 => rw [show t931.length = t914.length from (Kd.R_reads' HO_13.out).1.symm]; exact (Kd.R_reads' HO_13.out).2.1); rintro e w' ⟨rfl, ⟨nd, rfl⟩⟩; refine ⟨_, rfl, ?_⟩))
         go_ret
         exact ⟨by first | rfl | (simp [*, errW_none, errW_some] <;> rfl), (qs HB)⟩
        rw [if_neg c70] at H
        have c70b0 : (t946 == t930) = false := beq_eq_false_iff_ne.mpr c70
        have c70b1 : (t946 != t930) = true := bne_iff_ne.mpr c70
        exact absurd H (by simp)
       replace c67 := Bool.eq_false_iff.mpr c67
       subst c67
       have H1 : (some false) = some true := by rw [if_neg (show ¬ (false = true) by decide)] at H; exact H
       clear H; have H := H1; clear H1
       exact absurd H (by simp)
      rw [if_neg c61] at H
      have c61b0 : (t932 == t930) = false := beq_eq_false_iff_ne.mpr c61
      have c61b1 : (t932 != t930) = true := bne_iff_ne.mpr c61
      exact absurd H (by simp)
   replace c26 := Bool.eq_false_iff.mpr c26
   subst c26
   have H1 : (some false) = some true := by rw [if_neg (show ¬ (false = true) by decide)] at H; exact H
   clear H; have H := H1; clear H1
   exact absurd H (by simp)
  replace c23 := Bool.eq_false_iff.mpr c23
  subst c23
  have H1 : (some false) = some true := by rw [if_neg (show ¬ (false = true) by decide)] at H; exact H
  clear H; have H := H1; clear H1
  exact absurd H (by simp)
 replace c20 := Bool.eq_false_iff.mpr c20
 subst c20
 have H1 : (some false) = some true := by rw [if_neg (show ¬ (false = true) by decide)] at H; exact H
 clear H; have H := H1; clear H1
 exact absurd H (by simp)
end Go.Proofs.Ytndffnacbfdnoaa.PAll
