/-
 The laws' own functions: held.
-/
import Derived.Test.YthfkpkfcnnhkeaaGreatTypes
import Derived.Test.YthfkpkfcnnhkeaaGreatCode
import Derived.Test.YthfkpkfcnnhkeaaGreatMark
set_option linter.unusedVariables false
set_option linter.unusedSimpArgs false
namespace Go.Vx.NrZ
set_option linter.unusedVariables false
set_option linter.unusedSimpArgs false
set_option maxRecDepth 4000
set_option maxHeartbeats 4000000
theorem l_heldValueS {R : Type} (e : En R) (sto : List (List D)) (k : List Fr) : ∀ (rest pre : List TValue) (i q : Int), i = pre.length → pre.length + rest.length ≤ 34359738368 → lsum TValue.n rest ≤ 34359738368 → 0 ≤ q → q + ((lsum TValue.m rest : Nat) : Int) ≤ 1099511627776 →
  go T e v175_m1 (.lp v175_l1 :: .bl 0 :: .sq (.clr [4,5,6,7,8,9,10,11,12,13,14,15,16,17,18,19,20,21,22,23,24,25,26,27,28,29,30,31,32,33,34,35,36,37,38,39,40,41,42,43,44,45,46,47,48]) :: k) ⟨[.d (.sl false 4 (pre.map (TValue.e false) ++ (mkL TValue.mk_ TValue.nx rest q).map (TValue.e false))), .d (.int .i64 q), Z, Z, Z, .d (.int .i64 i), Z, Z, Z, Z, Z, Z, Z, Z, Z, Z, Z, Z, Z, Z, Z, Z, Z, Z, Z, Z, Z, Z, Z, Z, Z, Z, Z, Z, Z, Z, Z, Z, Z, Z, Z, Z, Z, Z, Z, Z, Z, Z, Z, Z], sto⟩ = bk T e k ⟨[.d (.sl false 4 (pre.map (TValue.e false) ++ (mkL TValue.mk_ TValue.nx rest q).map (TValue.e false))), .d (.int .i64 (foldn TValue.nx rest q)), Z, Z, Z, Z, Z, Z, Z, Z, Z, Z, Z, Z, Z, Z, Z, Z, Z, Z, Z, Z, Z, Z, Z, Z, Z, Z, Z, Z, Z, Z, Z, Z, Z, Z, Z, Z, Z, Z, Z, Z, Z, Z, Z, Z, Z, Z, Z, Z], sto⟩ := by
 intro rest
 induction rest with
 | nil =>
  intro pre i q hi h1 h2 h3 h4
  have ht : i.toNat = pre.length := by omega
  unfold v175_m1
  simp (maxSteps := 9999999) (disch := omega) only [vx, px, ty, ↓reduceIte, Bool.false_eq_true, reduceCtorEq, Nat.reduceAdd, Nat.reduceSub, Nat.reduceLeDiff, Nat.reduceEqDiff, Nat.reduceLT, Nat.reduceMul, List.reduceReplicate, and_true, true_and, and_false, false_and, and_self, or_true, true_or, or_false, false_or, not_true_eq_false, not_false_eq_true, ne_eq, w175_1, mkL, foldn]
 | cons x rest ih =>
  intro pre i q hi h1 h2 h3 h4
  have ht : i.toNat = pre.length := by omega
  simp only [lsum_cons, TValue.m, TValue.n] at h2 h4
  rw [List.length_cons] at h1
  have hnx := TValue.nxm x q
  have h := ih (pre ++ [TValue.mk_ x q]) (i + 1) (TValue.nx x q) (by simp; omega) (by simp; omega) (by omega) (by omega) (by simp only [hnx, TValue.m]; omega)
  simp only [map_snoc] at h
  simp only [mkL, foldn, List.map_cons]
  unfold v175_m1
  simp (maxSteps := 9999999) (disch := omega) only [vx, px, ty, ↓reduceIte, Bool.false_eq_true, reduceCtorEq, Nat.reduceAdd, Nat.reduceSub, Nat.reduceLeDiff, Nat.reduceEqDiff, Nat.reduceLT, Nat.reduceMul, List.reduceReplicate, and_true, true_and, and_false, false_and, and_self, or_true, true_or, or_false, false_or, not_true_eq_false, not_false_eq_true, ne_eq, vxd, Nat.reduceBNe, w175_1, ht, ifT, c_markText, TValue.mk_]
  exact h
theorem c_heldValueS (xs : List TValue) (q : Int) (sto : List (List D)) (h : xs.length ≤ 34359738368) (h2 : lsum TValue.n xs ≤ 34359738368) (h3 : 0 ≤ q) (h4 : q + ((lsum TValue.m xs : Nat) : Int) ≤ 1099511627776) : vcall T 175 [.sl false 4 ((mkL TValue.mk_ TValue.nx xs q).map (TValue.e false)), .int .i64 q] sto = some (.int .i64 (foldn TValue.nx xs q), [], sto) := by
 rw [vcall_go T (g := v175) rfl rfl rfl _ _ rfl]
 simp (maxSteps := 9999999) (disch := omega) only [vx, px, ty, ↓reduceIte, Bool.false_eq_true, reduceCtorEq, Nat.reduceAdd, Nat.reduceSub, Nat.reduceLeDiff, Nat.reduceEqDiff, Nat.reduceLT, Nat.reduceMul, List.reduceReplicate, and_true, true_and, and_false, false_and, and_self, or_true, true_or, or_false, false_or, not_true_eq_false, not_false_eq_true, ne_eq, v175, v175_b, w175_1]
 have hl := fun k => l_heldValueS (enF [.tmp 4] []) sto k xs [] 0 q rfl (by simp; omega) h2 h3 h4
 simp only [List.map_nil, List.nil_append] at hl
 rw [hl]
 simp (maxSteps := 9999999) (disch := omega) only [vx, px, ty, ↓reduceIte, Bool.false_eq_true, reduceCtorEq, Nat.reduceAdd, Nat.reduceSub, Nat.reduceLeDiff, Nat.reduceEqDiff, Nat.reduceLT, Nat.reduceMul, List.reduceReplicate, and_true, true_and, and_false, false_and, and_self, or_true, true_or, or_false, false_or, not_true_eq_false, not_false_eq_true, ne_eq]
theorem l_heldObjectS {R : Type} (e : En R) (sto : List (List D)) (k : List Fr) : ∀ (rest pre : List TObject) (i q : Int), i = pre.length → pre.length + rest.length ≤ 34359738368 → lsum TObject.n rest ≤ 34359738368 → 0 ≤ q → q + ((lsum TObject.m rest : Nat) : Int) ≤ 1099511627776 →
  go T e v107_m1 (.lp v107_l1 :: .bl 0 :: .sq (.clr [4,5,6,7,8,9,10,11,12,13,14,15,16,17,18,19,20,21,22,23,24,25,26,27,28,29,30,31,32,33,34,35,36,37,38,39,40,41,42,43,44,45,46,47,48,49,50,51,52,53,54,55,56,57,58,59,60,61,62,63,64,65,66,67,68,69,70,71,72,73,74,75,76,77,78,79,80,81,82,83,84,85,86,87,88,89,90,91,92,93,94,95,96,97,98,99,100,101,102,103,104,105,106,107]) :: k) ⟨[.d (.sl false 10 (pre.map (TObject.e false) ++ (mkL TObject.mk_ TObject.nx rest q).map (TObject.e false))), .d (.int .i64 q), Z, Z, Z, .d (.int .i64 i), Z, Z, Z, Z, Z, Z, Z, Z, Z, Z, Z, Z, Z, Z, Z, Z, Z, Z, Z, Z, Z, Z, Z, Z, Z, Z, Z, Z, Z, Z, Z, Z, Z, Z, Z, Z, Z, Z, Z, Z, Z, Z, Z, Z, Z, Z, Z, Z, Z, Z, Z, Z, Z, Z, Z, Z, Z, Z, Z, Z, Z, Z, Z, Z, Z, Z, Z, Z, Z, Z, Z, Z, Z, Z, Z, Z, Z, Z, Z, Z, Z, Z, Z, Z, Z, Z, Z, Z, Z, Z, Z, Z, Z, Z, Z, Z, Z, Z, Z, Z, Z, Z, Z], sto⟩ = bk T e k ⟨[.d (.sl false 10 (pre.map (TObject.e false) ++ (mkL TObject.mk_ TObject.nx rest q).map (TObject.e false))), .d (.int .i64 (foldn TObject.nx rest q)), Z, Z, Z, Z, Z, Z, Z, Z, Z, Z, Z, Z, Z, Z, Z, Z, Z, Z, Z, Z, Z, Z, Z, Z, Z, Z, Z, Z, Z, Z, Z, Z, Z, Z, Z, Z, Z, Z, Z, Z, Z, Z, Z, Z, Z, Z, Z, Z, Z, Z, Z, Z, Z, Z, Z, Z, Z, Z, Z, Z, Z, Z, Z, Z, Z, Z, Z, Z, Z, Z, Z, Z, Z, Z, Z, Z, Z, Z, Z, Z, Z, Z, Z, Z, Z, Z, Z, Z, Z, Z, Z, Z, Z, Z, Z, Z, Z, Z, Z, Z, Z, Z, Z, Z, Z, Z, Z], sto⟩ := by
 intro rest
 induction rest with
 | nil =>
  intro pre i q hi h1 h2 h3 h4
  have ht : i.toNat = pre.length := by omega
  unfold v107_m1
  simp (maxSteps := 9999999) (disch := omega) only [vx, px, ty, ↓reduceIte, Bool.false_eq_true, reduceCtorEq, Nat.reduceAdd, Nat.reduceSub, Nat.reduceLeDiff, Nat.reduceEqDiff, Nat.reduceLT, Nat.reduceMul, List.reduceReplicate, and_true, true_and, and_false, false_and, and_self, or_true, true_or, or_false, false_or, not_true_eq_false, not_false_eq_true, ne_eq, w107_1, mkL, foldn]
 | cons x rest ih =>
  intro pre i q hi h1 h2 h3 h4
  have ht : i.toNat = pre.length := by omega
  simp only [lsum_cons, TObject.m, TObject.n, TValue.m, TValue.n] at h2 h4
  rw [List.length_cons] at h1
  have hf0 := foldn_m TValue.nxm x.Keys (q + 1 + 1 + 1 + 1)
  have hf1 := foldn_m TValue.nxm x.Vals (foldn TValue.nx x.Keys (q + 1 + 1 + 1 + 1))
  have hnx := TObject.nxm x q
  have h := ih (pre ++ [TObject.mk_ x q]) (i + 1) (TObject.nx x q) (by simp; omega) (by simp; omega) (by omega) (by omega) (by simp only [hnx, TObject.m, TValue.m, TValue.n]; omega)
  simp only [map_snoc] at h
  simp only [mkL, foldn, List.map_cons]
  unfold v107_m1
  simp (maxSteps := 9999999) (disch := omega) only [vx, px, ty, ↓reduceIte, Bool.false_eq_true, reduceCtorEq, Nat.reduceAdd, Nat.reduceSub, Nat.reduceLeDiff, Nat.reduceEqDiff, Nat.reduceLT, Nat.reduceMul, List.reduceReplicate, and_true, true_and, and_false, false_and, and_self, or_true, true_or, or_false, false_or, not_true_eq_false, not_false_eq_true, ne_eq, vxd, Nat.reduceBNe, w107_1, ht, ifT, c_heldValueS, c_markText, TObject.mk_, TValue.mk_]
  exact h
theorem c_heldObjectS (xs : List TObject) (q : Int) (sto : List (List D)) (h : xs.length ≤ 34359738368) (h2 : lsum TObject.n xs ≤ 34359738368) (h3 : 0 ≤ q) (h4 : q + ((lsum TObject.m xs : Nat) : Int) ≤ 1099511627776) : vcall T 107 [.sl false 10 ((mkL TObject.mk_ TObject.nx xs q).map (TObject.e false)), .int .i64 q] sto = some (.int .i64 (foldn TObject.nx xs q), [], sto) := by
 rw [vcall_go T (g := v107) rfl rfl rfl _ _ rfl]
 simp (maxSteps := 9999999) (disch := omega) only [vx, px, ty, ↓reduceIte, Bool.false_eq_true, reduceCtorEq, Nat.reduceAdd, Nat.reduceSub, Nat.reduceLeDiff, Nat.reduceEqDiff, Nat.reduceLT, Nat.reduceMul, List.reduceReplicate, and_true, true_and, and_false, false_and, and_self, or_true, true_or, or_false, false_or, not_true_eq_false, not_false_eq_true, ne_eq, v107, v107_b, w107_1]
 have hl := fun k => l_heldObjectS (enF [.tmp 4] []) sto k xs [] 0 q rfl (by simp; omega) h2 h3 h4
 simp only [List.map_nil, List.nil_append] at hl
 rw [hl]
 simp (maxSteps := 9999999) (disch := omega) only [vx, px, ty, ↓reduceIte, Bool.false_eq_true, reduceCtorEq, Nat.reduceAdd, Nat.reduceSub, Nat.reduceLeDiff, Nat.reduceEqDiff, Nat.reduceLT, Nat.reduceMul, List.reduceReplicate, and_true, true_and, and_false, false_and, and_self, or_true, true_or, or_false, false_or, not_true_eq_false, not_false_eq_true, ne_eq]
theorem c_heldHeap (x : THeap) (q : Int) (sto : List (List D)) (h : THeap.n x ≤ 34359738368) (h3 : 0 ≤ q) (h4 : q + ((lsum TObject.m x.Objects : Nat) : Int) ≤ 1099511627776) : vcall T 43 [D.agg [D.int .i64 x.Next, D.sl false 10 (List.map (TObject.e false) (mkL TObject.mk_ TObject.nx x.Objects (q)))], .int .i64 q] sto = some (.int .i64 (foldn TObject.nx x.Objects (q)), [], sto) := by
 simp only [THeap.n] at h
 have hfObjectsx := foldn_m TObject.nxm x.Objects (q)
 rw [vcall_go T (g := v43) rfl rfl rfl _ _ rfl]
 simp (maxSteps := 9999999) (disch := omega) only [vx, px, ty, ↓reduceIte, Bool.false_eq_true, reduceCtorEq, Nat.reduceAdd, Nat.reduceSub, Nat.reduceLeDiff, Nat.reduceEqDiff, Nat.reduceLT, Nat.reduceMul, List.reduceReplicate, and_true, true_and, and_false, false_and, and_self, or_true, true_or, or_false, false_or, not_true_eq_false, not_false_eq_true, ne_eq, v43, v43_b, c_heldObjectS]
end Go.Vx.NrZ
