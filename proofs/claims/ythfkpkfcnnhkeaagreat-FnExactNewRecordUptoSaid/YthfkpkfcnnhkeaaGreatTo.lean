/-
 The laws' own functions: to.
-/
import Derived.Test.YthfkpkfcnnhkeaaGreatTypes
import Derived.Test.YthfkpkfcnnhkeaaGreatCode
set_option linter.unusedVariables false
set_option linter.unusedSimpArgs false
namespace Go.Vx.NrZ
set_option linter.unusedVariables false
set_option linter.unusedSimpArgs false
set_option maxRecDepth 4000
set_option maxHeartbeats 4000000
theorem l_toStringS {R : Type} (e : En R) (sto : List (List D)) (k : List Fr) : ∀ (rest pre : List ByteArray) (i : Int), i = pre.length → pre.length + rest.length ≤ 1048576 → lsum ByteArray.size rest ≤ 1048576 →
  go T e v15_m1 (.lp v15_l1 :: .bl 0 :: .sq (.clr [2,4,5,6,7,8,9,10,11,12,13,14,15,16,17,18,19,20]) :: k) ⟨[.d (.sl false 1 (pre.map D.str ++ rest.map D.str)), Z, Z, .d (.sl true 1 (pre.map D.str ++ zerosD (.str .empty) rest.length)), .d (.int .i64 i), Z, Z, Z, Z, Z, Z, Z, Z, Z, Z, Z, Z, Z, Z, Z, Z, Z], sto⟩ = bk T e k ⟨[.d (.sl false 1 (pre.map D.str ++ rest.map D.str)), Z, Z, .d (.sl true 1 (pre.map D.str ++ rest.map D.str)), Z, Z, Z, Z, Z, Z, Z, Z, Z, Z, Z, Z, Z, Z, Z, Z, Z, Z], sto⟩ := by
 intro rest
 induction rest with
 | nil =>
  intro pre i hi h1 h2
  have ht : i.toNat = pre.length := by omega
  unfold v15_m1
  simp (maxSteps := 9999999) (disch := omega) only [vx, px, ty, ↓reduceIte, Bool.false_eq_true, reduceCtorEq, Nat.reduceAdd, Nat.reduceSub, Nat.reduceLeDiff, Nat.reduceEqDiff, Nat.reduceLT, Nat.reduceMul, List.reduceReplicate, and_true, true_and, and_false, false_and, and_self, or_true, true_or, or_false, false_or, not_true_eq_false, not_false_eq_true, ne_eq, w15_1]
 | cons x rest ih =>
  intro pre i hi h1 h2
  have ht : i.toNat = pre.length := by omega
  rw [lsum_cons] at h2
  rw [List.length_cons] at h1
  unfold v15_m1
  simp (maxSteps := 9999999) (disch := omega) only [vx, px, ty, ↓reduceIte, Bool.false_eq_true, reduceCtorEq, Nat.reduceAdd, Nat.reduceSub, Nat.reduceLeDiff, Nat.reduceEqDiff, Nat.reduceLT, Nat.reduceMul, List.reduceReplicate, and_true, true_and, and_false, false_and, and_self, or_true, true_or, or_false, false_or, not_true_eq_false, not_false_eq_true, ne_eq, w15_1, ht, List.map_cons, ifT]
  have h := ih (pre ++ [x]) (i + 1) (by simp; omega) (by simp; omega) (by omega)
  simp only [map_snoc] at h
  exact h
theorem c_toStringS (xs : List ByteArray) (sto : List (List D)) (h : xs.length ≤ 1048576) (h2 : lsum ByteArray.size xs ≤ 1048576) : vcall T 15 [.sl false 1 (xs.map D.str)] sto = some (.sl true 1 (xs.map D.str), [], sto) := by
 have hm : xs.length ≤ xs.length ∧ xs.length ≤ most := ⟨Nat.le_refl _, by unfold most; omega⟩
 rw [vcall_go T (g := v15) rfl rfl rfl _ _ rfl]
 simp (maxSteps := 9999999) (disch := omega) only [vx, px, ty, ↓reduceIte, Bool.false_eq_true, reduceCtorEq, Nat.reduceAdd, Nat.reduceSub, Nat.reduceLeDiff, Nat.reduceEqDiff, Nat.reduceLT, Nat.reduceMul, List.reduceReplicate, and_true, true_and, and_false, false_and, and_self, or_true, true_or, or_false, false_or, not_true_eq_false, not_false_eq_true, ne_eq, v15, v15_b, w15_1, hm, ifT]
 have hl := fun k => l_toStringS (enF [.tmp 2] []) sto k xs [] 0 rfl (by simp; omega) h2
 simp only [List.map_nil, List.nil_append] at hl
 rw [hl]
 simp (maxSteps := 9999999) (disch := omega) only [vx, px, ty, ↓reduceIte, Bool.false_eq_true, reduceCtorEq, Nat.reduceAdd, Nat.reduceSub, Nat.reduceLeDiff, Nat.reduceEqDiff, Nat.reduceLT, Nat.reduceMul, List.reduceReplicate, and_true, true_and, and_false, false_and, and_self, or_true, true_or, or_false, false_or, not_true_eq_false, not_false_eq_true, ne_eq]
theorem c_toValue (x : TValue) (sto : List (List D)) (h : TValue.n x ≤ 1048576) : vcall T 46 [D.agg [D.int .i64 x.Kind, D.int .i64 x.Num, D.str x.Text, D.int .i64 x.Ref]] sto = some (D.agg [D.int .i64 x.Kind, D.int .i64 x.Num, D.str x.Text, D.int .i64 x.Ref], [], sto) := by
 simp only [TValue.n] at h
 rw [vcall_go T (g := v46) rfl rfl rfl _ _ rfl]
 simp (maxSteps := 9999999) (disch := omega) only [vx, px, ty, ↓reduceIte, Bool.false_eq_true, reduceCtorEq, Nat.reduceAdd, Nat.reduceSub, Nat.reduceLeDiff, Nat.reduceEqDiff, Nat.reduceLT, Nat.reduceMul, List.reduceReplicate, and_true, true_and, and_false, false_and, and_self, or_true, true_or, or_false, false_or, not_true_eq_false, not_false_eq_true, ne_eq, v46, v46_b]
theorem l_toValueS {R : Type} (e : En R) (sto : List (List D)) (k : List Fr) : ∀ (rest pre : List TValue) (i : Int), i = pre.length → pre.length + rest.length ≤ 1048576 → lsum TValue.n rest ≤ 1048576 →
  go T e v31_m1 (.lp v31_l1 :: .bl 0 :: .sq (.clr [2,4,5,6,7,8,9,10,11,12,13,14,15,16,17,18,19,20,21]) :: k) ⟨[.d (.sl false 4 (pre.map (TValue.e false) ++ rest.map (TValue.e false))), Z, Z, .d (.sl true 4 (pre.map (TValue.e false) ++ zerosD (.agg [.int .i64 0, .int .i64 0, .str .empty, .int .i64 0]) rest.length)), .d (.int .i64 i), Z, Z, Z, Z, Z, Z, Z, Z, Z, Z, Z, Z, Z, Z, Z, Z, Z, Z], sto⟩ = bk T e k ⟨[.d (.sl false 4 (pre.map (TValue.e false) ++ rest.map (TValue.e false))), Z, Z, .d (.sl true 4 (pre.map (TValue.e false) ++ rest.map (TValue.e false))), Z, Z, Z, Z, Z, Z, Z, Z, Z, Z, Z, Z, Z, Z, Z, Z, Z, Z, Z], sto⟩ := by
 intro rest
 induction rest with
 | nil =>
  intro pre i hi h1 h2
  have ht : i.toNat = pre.length := by omega
  unfold v31_m1
  simp (maxSteps := 9999999) (disch := omega) only [vx, px, ty, ↓reduceIte, Bool.false_eq_true, reduceCtorEq, Nat.reduceAdd, Nat.reduceSub, Nat.reduceLeDiff, Nat.reduceEqDiff, Nat.reduceLT, Nat.reduceMul, List.reduceReplicate, and_true, true_and, and_false, false_and, and_self, or_true, true_or, or_false, false_or, not_true_eq_false, not_false_eq_true, ne_eq, w31_1]
 | cons x rest ih =>
  intro pre i hi h1 h2
  have ht : i.toNat = pre.length := by omega
  rw [lsum_cons] at h2
  rw [List.length_cons] at h1
  unfold v31_m1
  simp (maxSteps := 9999999) (disch := omega) only [vx, px, ty, ↓reduceIte, Bool.false_eq_true, reduceCtorEq, Nat.reduceAdd, Nat.reduceSub, Nat.reduceLeDiff, Nat.reduceEqDiff, Nat.reduceLT, Nat.reduceMul, List.reduceReplicate, and_true, true_and, and_false, false_and, and_self, or_true, true_or, or_false, false_or, not_true_eq_false, not_false_eq_true, ne_eq, w31_1, ht, List.map_cons, ifT, c_toValue]
  have h := ih (pre ++ [x]) (i + 1) (by simp; omega) (by simp; omega) (by omega)
  simp only [map_snoc] at h
  exact h
theorem c_toValueS (xs : List TValue) (sto : List (List D)) (h : xs.length ≤ 1048576) (h2 : lsum TValue.n xs ≤ 1048576) : vcall T 31 [.sl false 4 (xs.map (TValue.e false))] sto = some (.sl true 4 (xs.map (TValue.e false)), [], sto) := by
 have hm : xs.length ≤ xs.length ∧ xs.length ≤ most := ⟨Nat.le_refl _, by unfold most; omega⟩
 rw [vcall_go T (g := v31) rfl rfl rfl _ _ rfl]
 simp (maxSteps := 9999999) (disch := omega) only [vx, px, ty, ↓reduceIte, Bool.false_eq_true, reduceCtorEq, Nat.reduceAdd, Nat.reduceSub, Nat.reduceLeDiff, Nat.reduceEqDiff, Nat.reduceLT, Nat.reduceMul, List.reduceReplicate, and_true, true_and, and_false, false_and, and_self, or_true, true_or, or_false, false_or, not_true_eq_false, not_false_eq_true, ne_eq, v31, v31_b, w31_1, hm, ifT]
 have hl := fun k => l_toValueS (enF [.tmp 2] []) sto k xs [] 0 rfl (by simp; omega) h2
 simp only [List.map_nil, List.nil_append] at hl
 rw [hl]
 simp (maxSteps := 9999999) (disch := omega) only [vx, px, ty, ↓reduceIte, Bool.false_eq_true, reduceCtorEq, Nat.reduceAdd, Nat.reduceSub, Nat.reduceLeDiff, Nat.reduceEqDiff, Nat.reduceLT, Nat.reduceMul, List.reduceReplicate, and_true, true_and, and_false, false_and, and_self, or_true, true_or, or_false, false_or, not_true_eq_false, not_false_eq_true, ne_eq]
theorem c_toObject (x : TObject) (sto : List (List D)) (h : TObject.n x ≤ 1048576) : vcall T 169 [D.agg [D.int .i64 x.Id, D.int .i64 x.Kind, D.str x.Name, D.int .i64 x.Low, D.sl false 4 (List.map (TValue.e false) x.Keys), D.sl false 4 (List.map (TValue.e false) x.Vals), D.int .i64 x.Default.Kind, D.int .i64 x.Default.Num, D.str x.Default.Text, D.int .i64 x.Default.Ref]] sto = some (D.agg [D.int .i64 x.Id, D.int .i64 x.Kind, D.str x.Name, D.int .i64 x.Low, D.sl true 4 (List.map (TValue.e false) x.Keys), D.sl true 4 (List.map (TValue.e false) x.Vals), D.int .i64 x.Default.Kind, D.int .i64 x.Default.Num, D.str x.Default.Text, D.int .i64 x.Default.Ref], [], sto) := by
 simp only [TObject.n] at h
 rw [vcall_go T (g := v169) rfl rfl rfl _ _ rfl]
 simp (maxSteps := 9999999) (disch := omega) only [vx, px, ty, ↓reduceIte, Bool.false_eq_true, reduceCtorEq, Nat.reduceAdd, Nat.reduceSub, Nat.reduceLeDiff, Nat.reduceEqDiff, Nat.reduceLT, Nat.reduceMul, List.reduceReplicate, and_true, true_and, and_false, false_and, and_self, or_true, true_or, or_false, false_or, not_true_eq_false, not_false_eq_true, ne_eq, v169, v169_b, c_toValue, c_toValueS]
theorem l_toObjectS {R : Type} (e : En R) (sto : List (List D)) (k : List Fr) : ∀ (rest pre : List TObject) (i : Int), i = pre.length → pre.length + rest.length ≤ 1048576 → lsum TObject.n rest ≤ 1048576 →
  go T e v96_m1 (.lp v96_l1 :: .bl 0 :: .sq (.clr [2,4,5,6,7,8,9,10,11,12,13,14,15,16,17,18,19,20,21]) :: k) ⟨[.d (.sl false 10 (pre.map (TObject.e false) ++ rest.map (TObject.e false))), Z, Z, .d (.sl true 10 (pre.map (TObject.e true) ++ zerosD (.agg [.int .i64 0, .int .i64 0, .str .empty, .int .i64 0, .sl true 4 [], .sl true 4 [], .int .i64 0, .int .i64 0, .str .empty, .int .i64 0]) rest.length)), .d (.int .i64 i), Z, Z, Z, Z, Z, Z, Z, Z, Z, Z, Z, Z, Z, Z, Z, Z, Z, Z], sto⟩ = bk T e k ⟨[.d (.sl false 10 (pre.map (TObject.e false) ++ rest.map (TObject.e false))), Z, Z, .d (.sl true 10 (pre.map (TObject.e true) ++ rest.map (TObject.e true))), Z, Z, Z, Z, Z, Z, Z, Z, Z, Z, Z, Z, Z, Z, Z, Z, Z, Z, Z], sto⟩ := by
 intro rest
 induction rest with
 | nil =>
  intro pre i hi h1 h2
  have ht : i.toNat = pre.length := by omega
  unfold v96_m1
  simp (maxSteps := 9999999) (disch := omega) only [vx, px, ty, ↓reduceIte, Bool.false_eq_true, reduceCtorEq, Nat.reduceAdd, Nat.reduceSub, Nat.reduceLeDiff, Nat.reduceEqDiff, Nat.reduceLT, Nat.reduceMul, List.reduceReplicate, and_true, true_and, and_false, false_and, and_self, or_true, true_or, or_false, false_or, not_true_eq_false, not_false_eq_true, ne_eq, w96_1]
 | cons x rest ih =>
  intro pre i hi h1 h2
  have ht : i.toNat = pre.length := by omega
  rw [lsum_cons] at h2
  rw [List.length_cons] at h1
  unfold v96_m1
  simp (maxSteps := 9999999) (disch := omega) only [vx, px, ty, ↓reduceIte, Bool.false_eq_true, reduceCtorEq, Nat.reduceAdd, Nat.reduceSub, Nat.reduceLeDiff, Nat.reduceEqDiff, Nat.reduceLT, Nat.reduceMul, List.reduceReplicate, and_true, true_and, and_false, false_and, and_self, or_true, true_or, or_false, false_or, not_true_eq_false, not_false_eq_true, ne_eq, w96_1, ht, List.map_cons, ifT, c_toObject]
  have h := ih (pre ++ [x]) (i + 1) (by simp; omega) (by simp; omega) (by omega)
  simp only [map_snoc] at h
  exact h
theorem c_toObjectS (xs : List TObject) (sto : List (List D)) (h : xs.length ≤ 1048576) (h2 : lsum TObject.n xs ≤ 1048576) : vcall T 96 [.sl false 10 (xs.map (TObject.e false))] sto = some (.sl true 10 (xs.map (TObject.e true)), [], sto) := by
 have hm : xs.length ≤ xs.length ∧ xs.length ≤ most := ⟨Nat.le_refl _, by unfold most; omega⟩
 rw [vcall_go T (g := v96) rfl rfl rfl _ _ rfl]
 simp (maxSteps := 9999999) (disch := omega) only [vx, px, ty, ↓reduceIte, Bool.false_eq_true, reduceCtorEq, Nat.reduceAdd, Nat.reduceSub, Nat.reduceLeDiff, Nat.reduceEqDiff, Nat.reduceLT, Nat.reduceMul, List.reduceReplicate, and_true, true_and, and_false, false_and, and_self, or_true, true_or, or_false, false_or, not_true_eq_false, not_false_eq_true, ne_eq, v96, v96_b, w96_1, hm, ifT]
 have hl := fun k => l_toObjectS (enF [.tmp 2] []) sto k xs [] 0 rfl (by simp; omega) h2
 simp only [List.map_nil, List.nil_append] at hl
 rw [hl]
 simp (maxSteps := 9999999) (disch := omega) only [vx, px, ty, ↓reduceIte, Bool.false_eq_true, reduceCtorEq, Nat.reduceAdd, Nat.reduceSub, Nat.reduceLeDiff, Nat.reduceEqDiff, Nat.reduceLT, Nat.reduceMul, List.reduceReplicate, and_true, true_and, and_false, false_and, and_self, or_true, true_or, or_false, false_or, not_true_eq_false, not_false_eq_true, ne_eq]
theorem c_toHeap (x : THeap) (sto : List (List D)) (h : THeap.n x ≤ 1048576) : vcall T 38 [D.agg [D.int .i64 x.Next, D.sl false 10 (List.map (TObject.e false) x.Objects)]] sto = some (D.agg [D.int .i64 x.Next, D.sl true 10 (List.map (TObject.e true) x.Objects)], [], sto) := by
 simp only [THeap.n] at h
 rw [vcall_go T (g := v38) rfl rfl rfl _ _ rfl]
 simp (maxSteps := 9999999) (disch := omega) only [vx, px, ty, ↓reduceIte, Bool.false_eq_true, reduceCtorEq, Nat.reduceAdd, Nat.reduceSub, Nat.reduceLeDiff, Nat.reduceEqDiff, Nat.reduceLT, Nat.reduceMul, List.reduceReplicate, and_true, true_and, and_false, false_and, and_self, or_true, true_or, or_false, false_or, not_true_eq_false, not_false_eq_true, ne_eq, v38, v38_b, c_toObjectS]
end Go.Vx.NrZ
