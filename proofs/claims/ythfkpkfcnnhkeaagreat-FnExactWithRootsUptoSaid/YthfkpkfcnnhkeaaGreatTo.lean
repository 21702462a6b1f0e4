/-
  The laws' own functions: to.
-/

import Derived.Test.YthfkpkfcnnhkeaaGreatTypes
import Derived.Test.YthfkpkfcnnhkeaaGreatCode
set_option linter.unusedVariables false
set_option linter.unusedSimpArgs false
namespace Go.Vx.WrZ
set_option linter.unusedVariables false
set_option linter.unusedSimpArgs false
set_option maxRecDepth 4000
set_option maxHeartbeats 4000000
theorem l_toStringS {R : Type} (e : En R) (sto : List (List D)) (k : List Fr) : ∀ (rest pre : List ByteArray) (i : Int), i = pre.length → pre.length + rest.length ≤ 1048576 → lsum ByteArray.size rest ≤ 1048576 →
    go T e v15_m1 (.lp v15_l1 :: .bl 0 :: .sq (.clr [2,4,5,6,7,8,9,10,11,12,13,14,15,16,17,18,19,20]) :: k) ⟨[.d (.sl false 1 (pre.map D.str ++ rest.map D.str)), Z, Z, .d (.sl true 1 (pre.map D.str ++ zerosD (.str .empty) rest.length)), .d (.int .i64 i), Z, Z, Z, Z, Z, Z, Z, Z, Z, Z, Z, Z, Z, Z, Z, Z, Z], sto⟩ = bk T e k ⟨[.d (.sl false 1 (pre.map D.str ++ rest.map D.str)), Z, Z, .d (.sl true 1 (pre.map D.str ++ rest.map D.str)), Z, Z, Z, Z, Z, Z, Z, Z, Z, Z, Z, Z, Z, Z, Z, Z, Z, Z], sto⟩ := by
  intro rest
  induction rest with
  | nil =>
    intro pre i hi h1 h2
    have ht : i.toNat = pre.length := by omega
    unfold v15_m1
    simp (maxSteps := 9999999) (disch := omega) only [vx, px, ty, ↓reduceIte, Bool.false_eq_true, reduceCtorEq, Nat.reduceAdd, Nat.reduceSub, Nat.reduceLeDiff, Nat.reduceEqDiff, Nat.reduceLT, Nat.reduceMul, List.reduceReplicate, and_true, true_and, and_false, false_and, and_self, or_true, true_or, or_false, false_or, not_true_eq_false, not_false_eq_true, ne_eq, w15_1]
  | cons x rest ih =>
    intro pre i hi h1 h2
    have ht : i.toNat = pre.length := by omega
    rw [lsum_cons] at h2
    rw [List.length_cons] at h1
    unfold v15_m1
    simp (maxSteps := 9999999) (disch := omega) only [vx, px, ty, ↓reduceIte, Bool.false_eq_true, reduceCtorEq, Nat.reduceAdd, Nat.reduceSub, Nat.reduceLeDiff, Nat.reduceEqDiff, Nat.reduceLT, Nat.reduceMul, List.reduceReplicate, and_true, true_and, and_false, false_and, and_self, or_true, true_or, or_false, false_or, not_true_eq_false, not_false_eq_true, ne_eq, w15_1, ht, List.map_cons, ifT]
    have h := ih (pre ++ [x]) (i + 1) (by simp; omega) (by simp; omega) (by omega)
    simp only [map_snoc] at h
    exact h
theorem c_toStringS (xs : List ByteArray) (sto : List (List D)) (h : xs.length ≤ 1048576) (h2 : lsum ByteArray.size xs ≤ 1048576) : vcall T 15 [.sl false 1 (xs.map D.str)] sto = some (.sl true 1 (xs.map D.str), [], sto) := by
  have hm : xs.length ≤ xs.length ∧ xs.length ≤ most := ⟨Nat.le_refl _, by unfold most; omega⟩
  rw [vcall_go T (g := v15) rfl rfl rfl _ _ rfl]
  simp (maxSteps := 9999999) (disch := omega) only [vx, px, ty, ↓reduceIte, Bool.false_eq_true, reduceCtorEq, Nat.reduceAdd, Nat.reduceSub, Nat.reduceLeDiff, Nat.reduceEqDiff, Nat.reduceLT, Nat.reduceMul, List.reduceReplicate, and_true, true_and, and_false, false_and, and_self, or_true, true_or, or_false, false_or, not_true_eq_false, not_false_eq_true, ne_eq, v15, v15_b, w15_1, hm, ifT]
  have hl := fun k => l_toStringS (enF [.tmp 2] []) sto k xs [] 0 rfl (by simp; omega) h2
  simp only [List.map_nil, List.nil_append] at hl
  rw [hl]
  simp (maxSteps := 9999999) (disch := omega) only [vx, px, ty, ↓reduceIte, Bool.false_eq_true, reduceCtorEq, Nat.reduceAdd, Nat.reduceSub, Nat.reduceLeDiff, Nat.reduceEqDiff, Nat.reduceLT, Nat.reduceMul, List.reduceReplicate, and_true, true_and, and_false, false_and, and_self, or_true, true_or, or_false, false_or, not_true_eq_false, not_false_eq_true, ne_eq]
theorem c_toValue (x : TValue) (sto : List (List D)) (h : TValue.n x ≤ 1048576) : vcall T 46 [D.agg [D.int .i64 x.Kind, D.int .i64 x.Num, D.str x.Text, D.int .i64 x.Ref]] sto = some (D.agg [D.int .i64 x.Kind, D.int .i64 x.Num, D.str x.Text, D.int .i64 x.Ref], [], sto) := by
  simp only [TValue.n] at h
  rw [vcall_go T (g := v46) rfl rfl rfl _ _ rfl]
  simp (maxSteps := 9999999) (disch := omega) only [vx, px, ty, ↓reduceIte, Bool.false_eq_true, reduceCtorEq, Nat.reduceAdd, Nat.reduceSub, Nat.reduceLeDiff, Nat.reduceEqDiff, Nat.reduceLT, Nat.reduceMul, List.reduceReplicate, and_true, true_and, and_false, false_and, and_self, or_true, true_or, or_false, false_or, not_true_eq_false, not_false_eq_true, ne_eq, v46, v46_b]
theorem l_toValueS {R : Type} (e : En R) (sto : List (List D)) (k : List Fr) : ∀ (rest pre : List TValue) (i : Int), i = pre.length → pre.length + rest.length ≤ 1048576 → lsum TValue.n rest ≤ 1048576 →
    go T e v31_m1 (.lp v31_l1 :: .bl 0 :: .sq (.clr [2,4,5,6,7,8,9,10,11,12,13,14,15,16,17,18,19,20,21]) :: k) ⟨[.d (.sl false 4 (pre.map (TValue.e false) ++ rest.map (TValue.e false))), Z, Z, .d (.sl true 4 (pre.map (TValue.e false) ++ zerosD (.agg [.int .i64 0, .int .i64 0, .str .empty, .int .i64 0]) rest.length)), .d (.int .i64 i), Z, Z, Z, Z, Z, Z, Z, Z, Z, Z, Z, Z, Z, Z, Z, Z, Z, Z], sto⟩ = bk T e k ⟨[.d (.sl false 4 (pre.map (TValue.e false) ++ rest.map (TValue.e false))), Z, Z, .d (.sl true 4 (pre.map (TValue.e false) ++ rest.map (TValue.e false))), Z, Z, Z, Z, Z, Z, Z, Z, Z, Z, Z, Z, Z, Z, Z, Z, Z, Z, Z], sto⟩ := by
  intro rest
  induction rest with
  | nil =>
    intro pre i hi h1 h2
    have ht : i.toNat = pre.length := by omega
    unfold v31_m1
    simp (maxSteps := 9999999) (disch := omega) only [vx, px, ty, ↓reduceIte, Bool.false_eq_true, reduceCtorEq, Nat.reduceAdd, Nat.reduceSub, Nat.reduceLeDiff, Nat.reduceEqDiff, Nat.reduceLT, Nat.reduceMul, List.reduceReplicate, and_true, true_and, and_false, false_and, and_self, or_true, true_or, or_false, false_or, not_true_eq_false, not_false_eq_true, ne_eq, w31_1]
  | cons x rest ih =>
    intro pre i hi h1 h2
    have ht : i.toNat = pre.length := by omega
    rw [lsum_cons] at h2
    rw [List.length_cons] at h1
    unfold v31_m1
    simp (maxSteps := 9999999) (disch := omega) only [vx, px, ty, ↓reduceIte, Bool.false_eq_true, reduceCtorEq, Nat.reduceAdd, Nat.reduceSub, Nat.reduceLeDiff, Nat.reduceEqDiff, Nat.reduceLT, Nat.reduceMul, List.reduceReplicate, and_true, true_and, and_false, false_and, and_self, or_true, true_or, or_false, false_or, not_true_eq_false, not_false_eq_true, ne_eq, w31_1, ht, List.map_cons, ifT, c_toValue]
    have h := ih (pre ++ [x]) (i + 1) (by simp; omega) (by simp; omega) (by omega)
    simp only [map_snoc] at h
    exact h
theorem c_toValueS (xs : List TValue) (sto : List (List D)) (h : xs.length ≤ 1048576) (h2 : lsum TValue.n xs ≤ 1048576) : vcall T 31 [.sl false 4 (xs.map (TValue.e false))] sto = some (.sl true 4 (xs.map (TValue.e false)), [], sto) := by
  have hm : xs.length ≤ xs.length ∧ xs.length ≤ most := ⟨Nat.le_refl _, by unfold most; omega⟩
  rw [vcall_go T (g := v31) rfl rfl rfl _ _ rfl]
  simp (maxSteps := 9999999) (disch := omega) only [vx, px, ty, ↓reduceIte, Bool.false_eq_true, reduceCtorEq, Nat.reduceAdd, Nat.reduceSub, Nat.reduceLeDiff, Nat.reduceEqDiff, Nat.reduceLT, Nat.reduceMul, List.reduceReplicate, and_true, true_and, and_false, false_and, and_self, or_true, true_or, or_false, false_or, not_true_eq_false, not_false_eq_true, ne_eq, v31, v31_b, w31_1, hm, ifT]
  have hl := fun k => l_toValueS (enF [.tmp 2] []) sto k xs [] 0 rfl (by simp; omega) h2
  simp only [List.map_nil, List.nil_append] at hl
  rw [hl]
  simp (maxSteps := 9999999) (disch := omega) only [vx, px, ty, ↓reduceIte, Bool.false_eq_true, reduceCtorEq, Nat.reduceAdd, Nat.reduceSub, Nat.reduceLeDiff, Nat.reduceEqDiff, Nat.reduceLT, Nat.reduceMul, List.reduceReplicate, and_true, true_and, and_false, false_and, and_self, or_true, true_or, or_false, false_or, not_true_eq_false, not_false_eq_true, ne_eq]
theorem c_toBinding (x : TBinding) (sto : List (List D)) (h : TBinding.n x ≤ 1048576) : vcall T 113 [D.agg [D.str x.Name, D.int .i64 x.Value.Kind, D.int .i64 x.Value.Num, D.str x.Value.Text, D.int .i64 x.Value.Ref]] sto = some (D.agg [D.str x.Name, D.int .i64 x.Value.Kind, D.int .i64 x.Value.Num, D.str x.Value.Text, D.int .i64 x.Value.Ref], [], sto) := by
  simp only [TBinding.n] at h
  rw [vcall_go T (g := v113) rfl rfl rfl _ _ rfl]
  simp (maxSteps := 9999999) (disch := omega) only [vx, px, ty, ↓reduceIte, Bool.false_eq_true, reduceCtorEq, Nat.reduceAdd, Nat.reduceSub, Nat.reduceLeDiff, Nat.reduceEqDiff, Nat.reduceLT, Nat.reduceMul, List.reduceReplicate, and_true, true_and, and_false, false_and, and_self, or_true, true_or, or_false, false_or, not_true_eq_false, not_false_eq_true, ne_eq, v113, v113_b, c_toValue]
theorem l_toBindingS {R : Type} (e : En R) (sto : List (List D)) (k : List Fr) : ∀ (rest pre : List TBinding) (i : Int), i = pre.length → pre.length + rest.length ≤ 1048576 → lsum TBinding.n rest ≤ 1048576 →
    go T e v50_m1 (.lp v50_l1 :: .bl 0 :: .sq (.clr [2,4,5,6,7,8,9,10,11,12,13,14,15,16,17,18,19,20,21]) :: k) ⟨[.d (.sl false 5 (pre.map (TBinding.e false) ++ rest.map (TBinding.e false))), Z, Z, .d (.sl true 5 (pre.map (TBinding.e false) ++ zerosD (.agg [.str .empty, .int .i64 0, .int .i64 0, .str .empty, .int .i64 0]) rest.length)), .d (.int .i64 i), Z, Z, Z, Z, Z, Z, Z, Z, Z, Z, Z, Z, Z, Z, Z, Z, Z, Z], sto⟩ = bk T e k ⟨[.d (.sl false 5 (pre.map (TBinding.e false) ++ rest.map (TBinding.e false))), Z, Z, .d (.sl true 5 (pre.map (TBinding.e false) ++ rest.map (TBinding.e false))), Z, Z, Z, Z, Z, Z, Z, Z, Z, Z, Z, Z, Z, Z, Z, Z, Z, Z, Z], sto⟩ := by
  intro rest
  induction rest with
  | nil =>
    intro pre i hi h1 h2
    have ht : i.toNat = pre.length := by omega
    unfold v50_m1
    simp (maxSteps := 9999999) (disch := omega) only [vx, px, ty, ↓reduceIte, Bool.false_eq_true, reduceCtorEq, Nat.reduceAdd, Nat.reduceSub, Nat.reduceLeDiff, Nat.reduceEqDiff, Nat.reduceLT, Nat.reduceMul, List.reduceReplicate, and_true, true_and, and_false, false_and, and_self, or_true, true_or, or_false, false_or, not_true_eq_false, not_false_eq_true, ne_eq, w50_1]
  | cons x rest ih =>
    intro pre i hi h1 h2
    have ht : i.toNat = pre.length := by omega
    rw [lsum_cons] at h2
    rw [List.length_cons] at h1
    unfold v50_m1
    simp (maxSteps := 9999999) (disch := omega) only [vx, px, ty, ↓reduceIte, Bool.false_eq_true, reduceCtorEq, Nat.reduceAdd, Nat.reduceSub, Nat.reduceLeDiff, Nat.reduceEqDiff, Nat.reduceLT, Nat.reduceMul, List.reduceReplicate, and_true, true_and, and_false, false_and, and_self, or_true, true_or, or_false, false_or, not_true_eq_false, not_false_eq_true, ne_eq, w50_1, ht, List.map_cons, ifT, c_toBinding]
    have h := ih (pre ++ [x]) (i + 1) (by simp; omega) (by simp; omega) (by omega)
    simp only [map_snoc] at h
    exact h
theorem c_toBindingS (xs : List TBinding) (sto : List (List D)) (h : xs.length ≤ 1048576) (h2 : lsum TBinding.n xs ≤ 1048576) : vcall T 50 [.sl false 5 (xs.map (TBinding.e false))] sto = some (.sl true 5 (xs.map (TBinding.e false)), [], sto) := by
  have hm : xs.length ≤ xs.length ∧ xs.length ≤ most := ⟨Nat.le_refl _, by unfold most; omega⟩
  rw [vcall_go T (g := v50) rfl rfl rfl _ _ rfl]
  simp (maxSteps := 9999999) (disch := omega) only [vx, px, ty, ↓reduceIte, Bool.false_eq_true, reduceCtorEq, Nat.reduceAdd, Nat.reduceSub, Nat.reduceLeDiff, Nat.reduceEqDiff, Nat.reduceLT, Nat.reduceMul, List.reduceReplicate, and_true, true_and, and_false, false_and, and_self, or_true, true_or, or_false, false_or, not_true_eq_false, not_false_eq_true, ne_eq, v50, v50_b, w50_1, hm, ifT]
  have hl := fun k => l_toBindingS (enF [.tmp 2] []) sto k xs [] 0 rfl (by simp; omega) h2
  simp only [List.map_nil, List.nil_append] at hl
  rw [hl]
  simp (maxSteps := 9999999) (disch := omega) only [vx, px, ty, ↓reduceIte, Bool.false_eq_true, reduceCtorEq, Nat.reduceAdd, Nat.reduceSub, Nat.reduceLeDiff, Nat.reduceEqDiff, Nat.reduceLT, Nat.reduceMul, List.reduceReplicate, and_true, true_and, and_false, false_and, and_self, or_true, true_or, or_false, false_or, not_true_eq_false, not_false_eq_true, ne_eq]
theorem c_toFunction (x : TFunction) (sto : List (List D)) (h : TFunction.n x ≤ 1048576) : vcall T 142 [D.agg [D.str x.Name, D.sl false 1 (List.map D.str x.Params), D.sl false 1 (List.map D.str x.Locals), D.str x.Label]] sto = some (D.agg [D.str x.Name, D.sl true 1 (List.map D.str x.Params), D.sl true 1 (List.map D.str x.Locals), D.str x.Label], [], sto) := by
  simp only [TFunction.n] at h
  rw [vcall_go T (g := v142) rfl rfl rfl _ _ rfl]
  simp (maxSteps := 9999999) (disch := omega) only [vx, px, ty, ↓reduceIte, Bool.false_eq_true, reduceCtorEq, Nat.reduceAdd, Nat.reduceSub, Nat.reduceLeDiff, Nat.reduceEqDiff, Nat.reduceLT, Nat.reduceMul, List.reduceReplicate, and_true, true_and, and_false, false_and, and_self, or_true, true_or, or_false, false_or, not_true_eq_false, not_false_eq_true, ne_eq, v142, v142_b, c_toStringS]
theorem l_toFunctionS {R : Type} (e : En R) (sto : List (List D)) (k : List Fr) : ∀ (rest pre : List TFunction) (i : Int), i = pre.length → pre.length + rest.length ≤ 1048576 → lsum TFunction.n rest ≤ 1048576 →
    go T e v70_m1 (.lp v70_l1 :: .bl 0 :: .sq (.clr [2,4,5,6,7,8,9,10,11,12,13,14,15,16,17,18,19,20,21]) :: k) ⟨[.d (.sl false 4 (pre.map (TFunction.e false) ++ rest.map (TFunction.e false))), Z, Z, .d (.sl true 4 (pre.map (TFunction.e true) ++ zerosD (.agg [.str .empty, .sl true 1 [], .sl true 1 [], .str .empty]) rest.length)), .d (.int .i64 i), Z, Z, Z, Z, Z, Z, Z, Z, Z, Z, Z, Z, Z, Z, Z, Z, Z, Z], sto⟩ = bk T e k ⟨[.d (.sl false 4 (pre.map (TFunction.e false) ++ rest.map (TFunction.e false))), Z, Z, .d (.sl true 4 (pre.map (TFunction.e true) ++ rest.map (TFunction.e true))), Z, Z, Z, Z, Z, Z, Z, Z, Z, Z, Z, Z, Z, Z, Z, Z, Z, Z, Z], sto⟩ := by
  intro rest
  induction rest with
  | nil =>
    intro pre i hi h1 h2
    have ht : i.toNat = pre.length := by omega
    unfold v70_m1
    simp (maxSteps := 9999999) (disch := omega) only [vx, px, ty, ↓reduceIte, Bool.false_eq_true, reduceCtorEq, Nat.reduceAdd, Nat.reduceSub, Nat.reduceLeDiff, Nat.reduceEqDiff, Nat.reduceLT, Nat.reduceMul, List.reduceReplicate, and_true, true_and, and_false, false_and, and_self, or_true, true_or, or_false, false_or, not_true_eq_false, not_false_eq_true, ne_eq, w70_1]
  | cons x rest ih =>
    intro pre i hi h1 h2
    have ht : i.toNat = pre.length := by omega
    rw [lsum_cons] at h2
    rw [List.length_cons] at h1
    unfold v70_m1
    simp (maxSteps := 9999999) (disch := omega) only [vx, px, ty, ↓reduceIte, Bool.false_eq_true, reduceCtorEq, Nat.reduceAdd, Nat.reduceSub, Nat.reduceLeDiff, Nat.reduceEqDiff, Nat.reduceLT, Nat.reduceMul, List.reduceReplicate, and_true, true_and, and_false, false_and, and_self, or_true, true_or, or_false, false_or, not_true_eq_false, not_false_eq_true, ne_eq, w70_1, ht, List.map_cons, ifT, c_toFunction]
    have h := ih (pre ++ [x]) (i + 1) (by simp; omega) (by simp; omega) (by omega)
    simp only [map_snoc] at h
    exact h
theorem c_toFunctionS (xs : List TFunction) (sto : List (List D)) (h : xs.length ≤ 1048576) (h2 : lsum TFunction.n xs ≤ 1048576) : vcall T 70 [.sl false 4 (xs.map (TFunction.e false))] sto = some (.sl true 4 (xs.map (TFunction.e true)), [], sto) := by
  have hm : xs.length ≤ xs.length ∧ xs.length ≤ most := ⟨Nat.le_refl _, by unfold most; omega⟩
  rw [vcall_go T (g := v70) rfl rfl rfl _ _ rfl]
  simp (maxSteps := 9999999) (disch := omega) only [vx, px, ty, ↓reduceIte, Bool.false_eq_true, reduceCtorEq, Nat.reduceAdd, Nat.reduceSub, Nat.reduceLeDiff, Nat.reduceEqDiff, Nat.reduceLT, Nat.reduceMul, List.reduceReplicate, and_true, true_and, and_false, false_and, and_self, or_true, true_or, or_false, false_or, not_true_eq_false, not_false_eq_true, ne_eq, v70, v70_b, w70_1, hm, ifT]
  have hl := fun k => l_toFunctionS (enF [.tmp 2] []) sto k xs [] 0 rfl (by simp; omega) h2
  simp only [List.map_nil, List.nil_append] at hl
  rw [hl]
  simp (maxSteps := 9999999) (disch := omega) only [vx, px, ty, ↓reduceIte, Bool.false_eq_true, reduceCtorEq, Nat.reduceAdd, Nat.reduceSub, Nat.reduceLeDiff, Nat.reduceEqDiff, Nat.reduceLT, Nat.reduceMul, List.reduceReplicate, and_true, true_and, and_false, false_and, and_self, or_true, true_or, or_false, false_or, not_true_eq_false, not_false_eq_true, ne_eq]
theorem c_toRecordType (x : TRecordType) (sto : List (List D)) (h : TRecordType.n x ≤ 1048576) : vcall T 143 [D.agg [D.str x.Name, D.sl false 1 (List.map D.str x.Fields)]] sto = some (D.agg [D.str x.Name, D.sl true 1 (List.map D.str x.Fields)], [], sto) := by
  simp only [TRecordType.n] at h
  rw [vcall_go T (g := v143) rfl rfl rfl _ _ rfl]
  simp (maxSteps := 9999999) (disch := omega) only [vx, px, ty, ↓reduceIte, Bool.false_eq_true, reduceCtorEq, Nat.reduceAdd, Nat.reduceSub, Nat.reduceLeDiff, Nat.reduceEqDiff, Nat.reduceLT, Nat.reduceMul, List.reduceReplicate, and_true, true_and, and_false, false_and, and_self, or_true, true_or, or_false, false_or, not_true_eq_false, not_false_eq_true, ne_eq, v143, v143_b, c_toStringS]
theorem l_toRecordTypeS {R : Type} (e : En R) (sto : List (List D)) (k : List Fr) : ∀ (rest pre : List TRecordType) (i : Int), i = pre.length → pre.length + rest.length ≤ 1048576 → lsum TRecordType.n rest ≤ 1048576 →
    go T e v71_m1 (.lp v71_l1 :: .bl 0 :: .sq (.clr [2,4,5,6,7,8,9,10,11,12,13,14,15,16,17,18,19,20,21]) :: k) ⟨[.d (.sl false 2 (pre.map (TRecordType.e false) ++ rest.map (TRecordType.e false))), Z, Z, .d (.sl true 2 (pre.map (TRecordType.e true) ++ zerosD (.agg [.str .empty, .sl true 1 []]) rest.length)), .d (.int .i64 i), Z, Z, Z, Z, Z, Z, Z, Z, Z, Z, Z, Z, Z, Z, Z, Z, Z, Z], sto⟩ = bk T e k ⟨[.d (.sl false 2 (pre.map (TRecordType.e false) ++ rest.map (TRecordType.e false))), Z, Z, .d (.sl true 2 (pre.map (TRecordType.e true) ++ rest.map (TRecordType.e true))), Z, Z, Z, Z, Z, Z, Z, Z, Z, Z, Z, Z, Z, Z, Z, Z, Z, Z, Z], sto⟩ := by
  intro rest
  induction rest with
  | nil =>
    intro pre i hi h1 h2
    have ht : i.toNat = pre.length := by omega
    unfold v71_m1
    simp (maxSteps := 9999999) (disch := omega) only [vx, px, ty, ↓reduceIte, Bool.false_eq_true, reduceCtorEq, Nat.reduceAdd, Nat.reduceSub, Nat.reduceLeDiff, Nat.reduceEqDiff, Nat.reduceLT, Nat.reduceMul, List.reduceReplicate, and_true, true_and, and_false, false_and, and_self, or_true, true_or, or_false, false_or, not_true_eq_false, not_false_eq_true, ne_eq, w71_1]
  | cons x rest ih =>
    intro pre i hi h1 h2
    have ht : i.toNat = pre.length := by omega
    rw [lsum_cons] at h2
    rw [List.length_cons] at h1
    unfold v71_m1
    simp (maxSteps := 9999999) (disch := omega) only [vx, px, ty, ↓reduceIte, Bool.false_eq_true, reduceCtorEq, Nat.reduceAdd, Nat.reduceSub, Nat.reduceLeDiff, Nat.reduceEqDiff, Nat.reduceLT, Nat.reduceMul, List.reduceReplicate, and_true, true_and, and_false, false_and, and_self, or_true, true_or, or_false, false_or, not_true_eq_false, not_false_eq_true, ne_eq, w71_1, ht, List.map_cons, ifT, c_toRecordType]
    have h := ih (pre ++ [x]) (i + 1) (by simp; omega) (by simp; omega) (by omega)
    simp only [map_snoc] at h
    exact h
theorem c_toRecordTypeS (xs : List TRecordType) (sto : List (List D)) (h : xs.length ≤ 1048576) (h2 : lsum TRecordType.n xs ≤ 1048576) : vcall T 71 [.sl false 2 (xs.map (TRecordType.e false))] sto = some (.sl true 2 (xs.map (TRecordType.e true)), [], sto) := by
  have hm : xs.length ≤ xs.length ∧ xs.length ≤ most := ⟨Nat.le_refl _, by unfold most; omega⟩
  rw [vcall_go T (g := v71) rfl rfl rfl _ _ rfl]
  simp (maxSteps := 9999999) (disch := omega) only [vx, px, ty, ↓reduceIte, Bool.false_eq_true, reduceCtorEq, Nat.reduceAdd, Nat.reduceSub, Nat.reduceLeDiff, Nat.reduceEqDiff, Nat.reduceLT, Nat.reduceMul, List.reduceReplicate, and_true, true_and, and_false, false_and, and_self, or_true, true_or, or_false, false_or, not_true_eq_false, not_false_eq_true, ne_eq, v71, v71_b, w71_1, hm, ifT]
  have hl := fun k => l_toRecordTypeS (enF [.tmp 2] []) sto k xs [] 0 rfl (by simp; omega) h2
  simp only [List.map_nil, List.nil_append] at hl
  rw [hl]
  simp (maxSteps := 9999999) (disch := omega) only [vx, px, ty, ↓reduceIte, Bool.false_eq_true, reduceCtorEq, Nat.reduceAdd, Nat.reduceSub, Nat.reduceLeDiff, Nat.reduceEqDiff, Nat.reduceLT, Nat.reduceMul, List.reduceReplicate, and_true, true_and, and_false, false_and, and_self, or_true, true_or, or_false, false_or, not_true_eq_false, not_false_eq_true, ne_eq]
theorem c_toScope (x : TScope) (sto : List (List D)) (h : TScope.n x ≤ 1048576) : vcall T 14 [D.agg [D.sl false 5 (List.map (TBinding.e false) x.Vars), D.sl false 4 (List.map (TFunction.e false) x.Functions), D.sl false 2 (List.map (TRecordType.e false) x.Types)]] sto = some (D.agg [D.sl true 5 (List.map (TBinding.e false) x.Vars), D.sl true 4 (List.map (TFunction.e true) x.Functions), D.sl true 2 (List.map (TRecordType.e true) x.Types)], [], sto) := by
  simp only [TScope.n] at h
  rw [vcall_go T (g := v14) rfl rfl rfl _ _ rfl]
  simp (maxSteps := 9999999) (disch := omega) only [vx, px, ty, ↓reduceIte, Bool.false_eq_true, reduceCtorEq, Nat.reduceAdd, Nat.reduceSub, Nat.reduceLeDiff, Nat.reduceEqDiff, Nat.reduceLT, Nat.reduceMul, List.reduceReplicate, and_true, true_and, and_false, false_and, and_self, or_true, true_or, or_false, false_or, not_true_eq_false, not_false_eq_true, ne_eq, v14, v14_b, c_toBindingS, c_toFunctionS, c_toRecordTypeS]
end Go.Vx.WrZ
