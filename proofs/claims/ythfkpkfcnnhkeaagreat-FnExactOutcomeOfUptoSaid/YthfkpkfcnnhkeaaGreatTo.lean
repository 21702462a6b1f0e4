/-
  The laws' own functions: to.
-/

import Derived.Test.YthfkpkfcnnhkeaaGreatTypes
import Derived.Test.YthfkpkfcnnhkeaaGreatCode
set_option linter.unusedVariables false
set_option linter.unusedSimpArgs false
namespace Go.Vx.OcZ
set_option linter.unusedVariables false
set_option linter.unusedSimpArgs false
set_option maxRecDepth 4000
set_option maxHeartbeats 4000000
theorem l_toStringS {R : Type} (e : En R) (sto : List (List D)) (k : List Fr) : ∀ (rest pre : List ByteArray) (i : Int), i = pre.length → pre.length + rest.length ≤ 1048576 → lsum ByteArray.size rest ≤ 1048576 →
    go T e v15_m1 (.lp v15_l1 :: .bl 0 :: .sq (.clr [2,4,5,6,7,8,9,10,11,12,13,14,15,16,17,18,19,20]) :: k) ⟨[.d (.sl false 1 (pre.map D.str ++ rest.map D.str)), Z, Z, .d (.sl true 1 (pre.map D.str ++ zerosD (.str .empty) rest.length)), .d (.int .i64 i), Z, Z, Z, Z, Z, Z, Z, Z, Z, Z, Z, Z, Z, Z, Z, Z, Z], sto⟩ = bk T e k ⟨[.d (.sl false 1 (pre.map D.str ++ rest.map D.str)), Z, Z, .d (.sl true 1 (pre.map D.str ++ rest.map D.str)), Z, Z, Z, Z, Z, Z, Z, Z, Z, Z, Z, Z, Z, Z, Z, Z, Z, Z], sto⟩ := by
  intro rest
  induction rest with
  | nil =>
    intro pre i hi h1 h2
    have ht : i.toNat = pre.length := by omega
    unfold v15_m1
    simp (maxSteps := 9999999) (disch := omega) only [vx, px, ty, ↓reduceIte, Bool.false_eq_true, reduceCtorEq, Nat.reduceAdd, Nat.reduceSub, Nat.reduceLeDiff, Nat.reduceEqDiff, Nat.reduceLT, Nat.reduceMul, List.reduceReplicate, and_true, true_and, and_false, false_and, and_self, or_true, true_or, or_false, false_or, not_true_eq_false, not_false_eq_true, ne_eq, w15_1]
  | cons x rest ih =>
    intro pre i hi h1 h2
    have ht : i.toNat = pre.length := by omega
    rw [lsum_cons] at h2
    rw [List.length_cons] at h1
    unfold v15_m1
    simp (maxSteps := 9999999) (disch := omega) only [vx, px, ty, ↓reduceIte, Bool.false_eq_true, reduceCtorEq, Nat.reduceAdd, Nat.reduceSub, Nat.reduceLeDiff, Nat.reduceEqDiff, Nat.reduceLT, Nat.reduceMul, List.reduceReplicate, and_true, true_and, and_false, false_and, and_self, or_true, true_or, or_false, false_or, not_true_eq_false, not_false_eq_true, ne_eq, w15_1, ht, List.map_cons, ifT]
    have h := ih (pre ++ [x]) (i + 1) (by simp; omega) (by simp; omega) (by omega)
    simp only [map_snoc] at h
    exact h
theorem c_toStringS (xs : List ByteArray) (sto : List (List D)) (h : xs.length ≤ 1048576) (h2 : lsum ByteArray.size xs ≤ 1048576) : vcall T 15 [.sl false 1 (xs.map D.str)] sto = some (.sl true 1 (xs.map D.str), [], sto) := by
  have hm : xs.length ≤ xs.length ∧ xs.length ≤ most := ⟨Nat.le_refl _, by unfold most; omega⟩
  rw [vcall_go T (g := v15) rfl rfl rfl _ _ rfl]
  simp (maxSteps := 9999999) (disch := omega) only [vx, px, ty, ↓reduceIte, Bool.false_eq_true, reduceCtorEq, Nat.reduceAdd, Nat.reduceSub, Nat.reduceLeDiff, Nat.reduceEqDiff, Nat.reduceLT, Nat.reduceMul, List.reduceReplicate, and_true, true_and, and_false, false_and, and_self, or_true, true_or, or_false, false_or, not_true_eq_false, not_false_eq_true, ne_eq, v15, v15_b, w15_1, hm, ifT]
  have hl := fun k => l_toStringS (enF [.tmp 2] []) sto k xs [] 0 rfl (by simp; omega) h2
  simp only [List.map_nil, List.nil_append] at hl
  rw [hl]
  simp (maxSteps := 9999999) (disch := omega) only [vx, px, ty, ↓reduceIte, Bool.false_eq_true, reduceCtorEq, Nat.reduceAdd, Nat.reduceSub, Nat.reduceLeDiff, Nat.reduceEqDiff, Nat.reduceLT, Nat.reduceMul, List.reduceReplicate, and_true, true_and, and_false, false_and, and_self, or_true, true_or, or_false, false_or, not_true_eq_false, not_false_eq_true, ne_eq]
theorem c_toValue (x : TValue) (sto : List (List D)) (h : TValue.n x ≤ 1048576) : vcall T 46 [D.agg [D.int .i64 x.Kind, D.int .i64 x.Num, D.str x.Text, D.int .i64 x.Ref]] sto = some (D.agg [D.int .i64 x.Kind, D.int .i64 x.Num, D.str x.Text, D.int .i64 x.Ref], [], sto) := by
  simp only [TValue.n] at h
  rw [vcall_go T (g := v46) rfl rfl rfl _ _ rfl]
  simp (maxSteps := 9999999) (disch := omega) only [vx, px, ty, ↓reduceIte, Bool.false_eq_true, reduceCtorEq, Nat.reduceAdd, Nat.reduceSub, Nat.reduceLeDiff, Nat.reduceEqDiff, Nat.reduceLT, Nat.reduceMul, List.reduceReplicate, and_true, true_and, and_false, false_and, and_self, or_true, true_or, or_false, false_or, not_true_eq_false, not_false_eq_true, ne_eq, v46, v46_b]
theorem l_toValueS {R : Type} (e : En R) (sto : List (List D)) (k : List Fr) : ∀ (rest pre : List TValue) (i : Int), i = pre.length → pre.length + rest.length ≤ 1048576 → lsum TValue.n rest ≤ 1048576 →
    go T e v31_m1 (.lp v31_l1 :: .bl 0 :: .sq (.clr [2,4,5,6,7,8,9,10,11,12,13,14,15,16,17,18,19,20,21]) :: k) ⟨[.d (.sl false 4 (pre.map (TValue.e false) ++ rest.map (TValue.e false))), Z, Z, .d (.sl true 4 (pre.map (TValue.e false) ++ zerosD (.agg [.int .i64 0, .int .i64 0, .str .empty, .int .i64 0]) rest.length)), .d (.int .i64 i), Z, Z, Z, Z, Z, Z, Z, Z, Z, Z, Z, Z, Z, Z, Z, Z, Z, Z], sto⟩ = bk T e k ⟨[.d (.sl false 4 (pre.map (TValue.e false) ++ rest.map (TValue.e false))), Z, Z, .d (.sl true 4 (pre.map (TValue.e false) ++ rest.map (TValue.e false))), Z, Z, Z, Z, Z, Z, Z, Z, Z, Z, Z, Z, Z, Z, Z, Z, Z, Z, Z], sto⟩ := by
  intro rest
  induction rest with
  | nil =>
    intro pre i hi h1 h2
    have ht : i.toNat = pre.length := by omega
    unfold v31_m1
    simp (maxSteps := 9999999) (disch := omega) only [vx, px, ty, ↓reduceIte, Bool.false_eq_true, reduceCtorEq, Nat.reduceAdd, Nat.reduceSub, Nat.reduceLeDiff, Nat.reduceEqDiff, Nat.reduceLT, Nat.reduceMul, List.reduceReplicate, and_true, true_and, and_false, false_and, and_self, or_true, true_or, or_false, false_or, not_true_eq_false, not_false_eq_true, ne_eq, w31_1]
  | cons x rest ih =>
    intro pre i hi h1 h2
    have ht : i.toNat = pre.length := by omega
    rw [lsum_cons] at h2
    rw [List.length_cons] at h1
    unfold v31_m1
    simp (maxSteps := 9999999) (disch := omega) only [vx, px, ty, ↓reduceIte, Bool.false_eq_true, reduceCtorEq, Nat.reduceAdd, Nat.reduceSub, Nat.reduceLeDiff, Nat.reduceEqDiff, Nat.reduceLT, Nat.reduceMul, List.reduceReplicate, and_true, true_and, and_false, false_and, and_self, or_true, true_or, or_false, false_or, not_true_eq_false, not_false_eq_true, ne_eq, w31_1, ht, List.map_cons, ifT, c_toValue]
    have h := ih (pre ++ [x]) (i + 1) (by simp; omega) (by simp; omega) (by omega)
    simp only [map_snoc] at h
    exact h
theorem c_toValueS (xs : List TValue) (sto : List (List D)) (h : xs.length ≤ 1048576) (h2 : lsum TValue.n xs ≤ 1048576) : vcall T 31 [.sl false 4 (xs.map (TValue.e false))] sto = some (.sl true 4 (xs.map (TValue.e false)), [], sto) := by
  have hm : xs.length ≤ xs.length ∧ xs.length ≤ most := ⟨Nat.le_refl _, by unfold most; omega⟩
  rw [vcall_go T (g := v31) rfl rfl rfl _ _ rfl]
  simp (maxSteps := 9999999) (disch := omega) only [vx, px, ty, ↓reduceIte, Bool.false_eq_true, reduceCtorEq, Nat.reduceAdd, Nat.reduceSub, Nat.reduceLeDiff, Nat.reduceEqDiff, Nat.reduceLT, Nat.reduceMul, List.reduceReplicate, and_true, true_and, and_false, false_and, and_self, or_true, true_or, or_false, false_or, not_true_eq_false, not_false_eq_true, ne_eq, v31, v31_b, w31_1, hm, ifT]
  have hl := fun k => l_toValueS (enF [.tmp 2] []) sto k xs [] 0 rfl (by simp; omega) h2
  simp only [List.map_nil, List.nil_append] at hl
  rw [hl]
  simp (maxSteps := 9999999) (disch := omega) only [vx, px, ty, ↓reduceIte, Bool.false_eq_true, reduceCtorEq, Nat.reduceAdd, Nat.reduceSub, Nat.reduceLeDiff, Nat.reduceEqDiff, Nat.reduceLT, Nat.reduceMul, List.reduceReplicate, and_true, true_and, and_false, false_and, and_self, or_true, true_or, or_false, false_or, not_true_eq_false, not_false_eq_true, ne_eq]
theorem c_toBinding (x : TBinding) (sto : List (List D)) (h : TBinding.n x ≤ 1048576) : vcall T 113 [D.agg [D.str x.Name, D.int .i64 x.Value.Kind, D.int .i64 x.Value.Num, D.str x.Value.Text, D.int .i64 x.Value.Ref]] sto = some (D.agg [D.str x.Name, D.int .i64 x.Value.Kind, D.int .i64 x.Value.Num, D.str x.Value.Text, D.int .i64 x.Value.Ref], [], sto) := by
  simp only [TBinding.n] at h
  rw [vcall_go T (g := v113) rfl rfl rfl _ _ rfl]
  simp (maxSteps := 9999999) (disch := omega) only [vx, px, ty, ↓reduceIte, Bool.false_eq_true, reduceCtorEq, Nat.reduceAdd, Nat.reduceSub, Nat.reduceLeDiff, Nat.reduceEqDiff, Nat.reduceLT, Nat.reduceMul, List.reduceReplicate, and_true, true_and, and_false, false_and, and_self, or_true, true_or, or_false, false_or, not_true_eq_false, not_false_eq_true, ne_eq, v113, v113_b, c_toValue]
theorem l_toBindingS {R : Type} (e : En R) (sto : List (List D)) (k : List Fr) : ∀ (rest pre : List TBinding) (i : Int), i = pre.length → pre.length + rest.length ≤ 1048576 → lsum TBinding.n rest ≤ 1048576 →
    go T e v50_m1 (.lp v50_l1 :: .bl 0 :: .sq (.clr [2,4,5,6,7,8,9,10,11,12,13,14,15,16,17,18,19,20,21]) :: k) ⟨[.d (.sl false 5 (pre.map (TBinding.e false) ++ rest.map (TBinding.e false))), Z, Z, .d (.sl true 5 (pre.map (TBinding.e false) ++ zerosD (.agg [.str .empty, .int .i64 0, .int .i64 0, .str .empty, .int .i64 0]) rest.length)), .d (.int .i64 i), Z, Z, Z, Z, Z, Z, Z, Z, Z, Z, Z, Z, Z, Z, Z, Z, Z, Z], sto⟩ = bk T e k ⟨[.d (.sl false 5 (pre.map (TBinding.e false) ++ rest.map (TBinding.e false))), Z, Z, .d (.sl true 5 (pre.map (TBinding.e false) ++ rest.map (TBinding.e false))), Z, Z, Z, Z, Z, Z, Z, Z, Z, Z, Z, Z, Z, Z, Z, Z, Z, Z, Z], sto⟩ := by
  intro rest
  induction rest with
  | nil =>
    intro pre i hi h1 h2
    have ht : i.toNat = pre.length := by omega
    unfold v50_m1
    simp (maxSteps := 9999999) (disch := omega) only [vx, px, ty, ↓reduceIte, Bool.false_eq_true, reduceCtorEq, Nat.reduceAdd, Nat.reduceSub, Nat.reduceLeDiff, Nat.reduceEqDiff, Nat.reduceLT, Nat.reduceMul, List.reduceReplicate, and_true, true_and, and_false, false_and, and_self, or_true, true_or, or_false, false_or, not_true_eq_false, not_false_eq_true, ne_eq, w50_1]
  | cons x rest ih =>
    intro pre i hi h1 h2
    have ht : i.toNat = pre.length := by omega
    rw [lsum_cons] at h2
    rw [List.length_cons] at h1
    unfold v50_m1
    simp (maxSteps := 9999999) (disch := omega) only [vx, px, ty, ↓reduceIte, Bool.false_eq_true, reduceCtorEq, Nat.reduceAdd, Nat.reduceSub, Nat.reduceLeDiff, Nat.reduceEqDiff, Nat.reduceLT, Nat.reduceMul, List.reduceReplicate, and_true, true_and, and_false, false_and, and_self, or_true, true_or, or_false, false_or, not_true_eq_false, not_false_eq_true, ne_eq, w50_1, ht, List.map_cons, ifT, c_toBinding]
    have h := ih (pre ++ [x]) (i + 1) (by simp; omega) (by simp; omega) (by omega)
    simp only [map_snoc] at h
    exact h
theorem c_toBindingS (xs : List TBinding) (sto : List (List D)) (h : xs.length ≤ 1048576) (h2 : lsum TBinding.n xs ≤ 1048576) : vcall T 50 [.sl false 5 (xs.map (TBinding.e false))] sto = some (.sl true 5 (xs.map (TBinding.e false)), [], sto) := by
  have hm : xs.length ≤ xs.length ∧ xs.length ≤ most := ⟨Nat.le_refl _, by unfold most; omega⟩
  rw [vcall_go T (g := v50) rfl rfl rfl _ _ rfl]
  simp (maxSteps := 9999999) (disch := omega) only [vx, px, ty, ↓reduceIte, Bool.false_eq_true, reduceCtorEq, Nat.reduceAdd, Nat.reduceSub, Nat.reduceLeDiff, Nat.reduceEqDiff, Nat.reduceLT, Nat.reduceMul, List.reduceReplicate, and_true, true_and, and_false, false_and, and_self, or_true, true_or, or_false, false_or, not_true_eq_false, not_false_eq_true, ne_eq, v50, v50_b, w50_1, hm, ifT]
  have hl := fun k => l_toBindingS (enF [.tmp 2] []) sto k xs [] 0 rfl (by simp; omega) h2
  simp only [List.map_nil, List.nil_append] at hl
  rw [hl]
  simp (maxSteps := 9999999) (disch := omega) only [vx, px, ty, ↓reduceIte, Bool.false_eq_true, reduceCtorEq, Nat.reduceAdd, Nat.reduceSub, Nat.reduceLeDiff, Nat.reduceEqDiff, Nat.reduceLT, Nat.reduceMul, List.reduceReplicate, and_true, true_and, and_false, false_and, and_self, or_true, true_or, or_false, false_or, not_true_eq_false, not_false_eq_true, ne_eq]
theorem c_toFunction (x : TFunction) (sto : List (List D)) (h : TFunction.n x ≤ 1048576) : vcall T 142 [D.agg [D.str x.Name, D.sl false 1 (List.map D.str x.Params), D.sl false 1 (List.map D.str x.Locals), D.str x.Label]] sto = some (D.agg [D.str x.Name, D.sl true 1 (List.map D.str x.Params), D.sl true 1 (List.map D.str x.Locals), D.str x.Label], [], sto) := by
  simp only [TFunction.n] at h
  rw [vcall_go T (g := v142) rfl rfl rfl _ _ rfl]
  simp (maxSteps := 9999999) (disch := omega) only [vx, px, ty, ↓reduceIte, Bool.false_eq_true, reduceCtorEq, Nat.reduceAdd, Nat.reduceSub, Nat.reduceLeDiff, Nat.reduceEqDiff, Nat.reduceLT, Nat.reduceMul, List.reduceReplicate, and_true, true_and, and_false, false_and, and_self, or_true, true_or, or_false, false_or, not_true_eq_false, not_false_eq_true, ne_eq, v142, v142_b, c_toStringS]
theorem l_toFunctionS {R : Type} (e : En R) (sto : List (List D)) (k : List Fr) : ∀ (rest pre : List TFunction) (i : Int), i = pre.length → pre.length + rest.length ≤ 1048576 → lsum TFunction.n rest ≤ 1048576 →
    go T e v70_m1 (.lp v70_l1 :: .bl 0 :: .sq (.clr [2,4,5,6,7,8,9,10,11,12,13,14,15,16,17,18,19,20,21]) :: k) ⟨[.d (.sl false 4 (pre.map (TFunction.e false) ++ rest.map (TFunction.e false))), Z, Z, .d (.sl true 4 (pre.map (TFunction.e true) ++ zerosD (.agg [.str .empty, .sl true 1 [], .sl true 1 [], .str .empty]) rest.length)), .d (.int .i64 i), Z, Z, Z, Z, Z, Z, Z, Z, Z, Z, Z, Z, Z, Z, Z, Z, Z, Z], sto⟩ = bk T e k ⟨[.d (.sl false 4 (pre.map (TFunction.e false) ++ rest.map (TFunction.e false))), Z, Z, .d (.sl true 4 (pre.map (TFunction.e true) ++ rest.map (TFunction.e true))), Z, Z, Z, Z, Z, Z, Z, Z, Z, Z, Z, Z, Z, Z, Z, Z, Z, Z, Z], sto⟩ := by
  intro rest
  induction rest with
  | nil =>
    intro pre i hi h1 h2
    have ht : i.toNat = pre.length := by omega
    unfold v70_m1
    simp (maxSteps := 9999999) (disch := omega) only [vx, px, ty, ↓reduceIte, Bool.false_eq_true, reduceCtorEq, Nat.reduceAdd, Nat.reduceSub, Nat.reduceLeDiff, Nat.reduceEqDiff, Nat.reduceLT, Nat.reduceMul, List.reduceReplicate, and_true, true_and, and_false, false_and, and_self, or_true, true_or, or_false, false_or, not_true_eq_false, not_false_eq_true, ne_eq, w70_1]
  | cons x rest ih =>
    intro pre i hi h1 h2
    have ht : i.toNat = pre.length := by omega
    rw [lsum_cons] at h2
    rw [List.length_cons] at h1
    unfold v70_m1
    simp (maxSteps := 9999999) (disch := omega) only [vx, px, ty, ↓reduceIte, Bool.false_eq_true, reduceCtorEq, Nat.reduceAdd, Nat.reduceSub, Nat.reduceLeDiff, Nat.reduceEqDiff, Nat.reduceLT, Nat.reduceMul, List.reduceReplicate, and_true, true_and, and_false, false_and, and_self, or_true, true_or, or_false, false_or, not_true_eq_false, not_false_eq_true, ne_eq, w70_1, ht, List.map_cons, ifT, c_toFunction]
    have h := ih (pre ++ [x]) (i + 1) (by simp; omega) (by simp; omega) (by omega)
    simp only [map_snoc] at h
    exact h
theorem c_toFunctionS (xs : List TFunction) (sto : List (List D)) (h : xs.length ≤ 1048576) (h2 : lsum TFunction.n xs ≤ 1048576) : vcall T 70 [.sl false 4 (xs.map (TFunction.e false))] sto = some (.sl true 4 (xs.map (TFunction.e true)), [], sto) := by
  have hm : xs.length ≤ xs.length ∧ xs.length ≤ most := ⟨Nat.le_refl _, by unfold most; omega⟩
  rw [vcall_go T (g := v70) rfl rfl rfl _ _ rfl]
  simp (maxSteps := 9999999) (disch := omega) only [vx, px, ty, ↓reduceIte, Bool.false_eq_true, reduceCtorEq, Nat.reduceAdd, Nat.reduceSub, Nat.reduceLeDiff, Nat.reduceEqDiff, Nat.reduceLT, Nat.reduceMul, List.reduceReplicate, and_true, true_and, and_false, false_and, and_self, or_true, true_or, or_false, false_or, not_true_eq_false, not_false_eq_true, ne_eq, v70, v70_b, w70_1, hm, ifT]
  have hl := fun k => l_toFunctionS (enF [.tmp 2] []) sto k xs [] 0 rfl (by simp; omega) h2
  simp only [List.map_nil, List.nil_append] at hl
  rw [hl]
  simp (maxSteps := 9999999) (disch := omega) only [vx, px, ty, ↓reduceIte, Bool.false_eq_true, reduceCtorEq, Nat.reduceAdd, Nat.reduceSub, Nat.reduceLeDiff, Nat.reduceEqDiff, Nat.reduceLT, Nat.reduceMul, List.reduceReplicate, and_true, true_and, and_false, false_and, and_self, or_true, true_or, or_false, false_or, not_true_eq_false, not_false_eq_true, ne_eq]
theorem c_toRecordType (x : TRecordType) (sto : List (List D)) (h : TRecordType.n x ≤ 1048576) : vcall T 143 [D.agg [D.str x.Name, D.sl false 1 (List.map D.str x.Fields)]] sto = some (D.agg [D.str x.Name, D.sl true 1 (List.map D.str x.Fields)], [], sto) := by
  simp only [TRecordType.n] at h
  rw [vcall_go T (g := v143) rfl rfl rfl _ _ rfl]
  simp (maxSteps := 9999999) (disch := omega) only [vx, px, ty, ↓reduceIte, Bool.false_eq_true, reduceCtorEq, Nat.reduceAdd, Nat.reduceSub, Nat.reduceLeDiff, Nat.reduceEqDiff, Nat.reduceLT, Nat.reduceMul, List.reduceReplicate, and_true, true_and, and_false, false_and, and_self, or_true, true_or, or_false, false_or, not_true_eq_false, not_false_eq_true, ne_eq, v143, v143_b, c_toStringS]
theorem l_toRecordTypeS {R : Type} (e : En R) (sto : List (List D)) (k : List Fr) : ∀ (rest pre : List TRecordType) (i : Int), i = pre.length → pre.length + rest.length ≤ 1048576 → lsum TRecordType.n rest ≤ 1048576 →
    go T e v71_m1 (.lp v71_l1 :: .bl 0 :: .sq (.clr [2,4,5,6,7,8,9,10,11,12,13,14,15,16,17,18,19,20,21]) :: k) ⟨[.d (.sl false 2 (pre.map (TRecordType.e false) ++ rest.map (TRecordType.e false))), Z, Z, .d (.sl true 2 (pre.map (TRecordType.e true) ++ zerosD (.agg [.str .empty, .sl true 1 []]) rest.length)), .d (.int .i64 i), Z, Z, Z, Z, Z, Z, Z, Z, Z, Z, Z, Z, Z, Z, Z, Z, Z, Z], sto⟩ = bk T e k ⟨[.d (.sl false 2 (pre.map (TRecordType.e false) ++ rest.map (TRecordType.e false))), Z, Z, .d (.sl true 2 (pre.map (TRecordType.e true) ++ rest.map (TRecordType.e true))), Z, Z, Z, Z, Z, Z, Z, Z, Z, Z, Z, Z, Z, Z, Z, Z, Z, Z, Z], sto⟩ := by
  intro rest
  induction rest with
  | nil =>
    intro pre i hi h1 h2
    have ht : i.toNat = pre.length := by omega
    unfold v71_m1
    simp (maxSteps := 9999999) (disch := omega) only [vx, px, ty, ↓reduceIte, Bool.false_eq_true, reduceCtorEq, Nat.reduceAdd, Nat.reduceSub, Nat.reduceLeDiff, Nat.reduceEqDiff, Nat.reduceLT, Nat.reduceMul, List.reduceReplicate, and_true, true_and, and_false, false_and, and_self, or_true, true_or, or_false, false_or, not_true_eq_false, not_false_eq_true, ne_eq, w71_1]
  | cons x rest ih =>
    intro pre i hi h1 h2
    have ht : i.toNat = pre.length := by omega
    rw [lsum_cons] at h2
    rw [List.length_cons] at h1
    unfold v71_m1
    simp (maxSteps := 9999999) (disch := omega) only [vx, px, ty, ↓reduceIte, Bool.false_eq_true, reduceCtorEq, Nat.reduceAdd, Nat.reduceSub, Nat.reduceLeDiff, Nat.reduceEqDiff, Nat.reduceLT, Nat.reduceMul, List.reduceReplicate, and_true, true_and, and_false, false_and, and_self, or_true, true_or, or_false, false_or, not_true_eq_false, not_false_eq_true, ne_eq, w71_1, ht, List.map_cons, ifT, c_toRecordType]
    have h := ih (pre ++ [x]) (i + 1) (by simp; omega) (by simp; omega) (by omega)
    simp only [map_snoc] at h
    exact h
theorem c_toRecordTypeS (xs : List TRecordType) (sto : List (List D)) (h : xs.length ≤ 1048576) (h2 : lsum TRecordType.n xs ≤ 1048576) : vcall T 71 [.sl false 2 (xs.map (TRecordType.e false))] sto = some (.sl true 2 (xs.map (TRecordType.e true)), [], sto) := by
  have hm : xs.length ≤ xs.length ∧ xs.length ≤ most := ⟨Nat.le_refl _, by unfold most; omega⟩
  rw [vcall_go T (g := v71) rfl rfl rfl _ _ rfl]
  simp (maxSteps := 9999999) (disch := omega) only [vx, px, ty, ↓reduceIte, Bool.false_eq_true, reduceCtorEq, Nat.reduceAdd, Nat.reduceSub, Nat.reduceLeDiff, Nat.reduceEqDiff, Nat.reduceLT, Nat.reduceMul, List.reduceReplicate, and_true, true_and, and_false, false_and, and_self, or_true, true_or, or_false, false_or, not_true_eq_false, not_false_eq_true, ne_eq, v71, v71_b, w71_1, hm, ifT]
  have hl := fun k => l_toRecordTypeS (enF [.tmp 2] []) sto k xs [] 0 rfl (by simp; omega) h2
  simp only [List.map_nil, List.nil_append] at hl
  rw [hl]
  simp (maxSteps := 9999999) (disch := omega) only [vx, px, ty, ↓reduceIte, Bool.false_eq_true, reduceCtorEq, Nat.reduceAdd, Nat.reduceSub, Nat.reduceLeDiff, Nat.reduceEqDiff, Nat.reduceLT, Nat.reduceMul, List.reduceReplicate, and_true, true_and, and_false, false_and, and_self, or_true, true_or, or_false, false_or, not_true_eq_false, not_false_eq_true, ne_eq]
theorem c_toScope (x : TScope) (sto : List (List D)) (h : TScope.n x ≤ 1048576) : vcall T 14 [D.agg [D.sl false 5 (List.map (TBinding.e false) x.Vars), D.sl false 4 (List.map (TFunction.e false) x.Functions), D.sl false 2 (List.map (TRecordType.e false) x.Types)]] sto = some (D.agg [D.sl true 5 (List.map (TBinding.e false) x.Vars), D.sl true 4 (List.map (TFunction.e true) x.Functions), D.sl true 2 (List.map (TRecordType.e true) x.Types)], [], sto) := by
  simp only [TScope.n] at h
  rw [vcall_go T (g := v14) rfl rfl rfl _ _ rfl]
  simp (maxSteps := 9999999) (disch := omega) only [vx, px, ty, ↓reduceIte, Bool.false_eq_true, reduceCtorEq, Nat.reduceAdd, Nat.reduceSub, Nat.reduceLeDiff, Nat.reduceEqDiff, Nat.reduceLT, Nat.reduceMul, List.reduceReplicate, and_true, true_and, and_false, false_and, and_self, or_true, true_or, or_false, false_or, not_true_eq_false, not_false_eq_true, ne_eq, v14, v14_b, c_toBindingS, c_toFunctionS, c_toRecordTypeS]
theorem c_toObject (x : TObject) (sto : List (List D)) (h : TObject.n x ≤ 1048576) : vcall T 169 [D.agg [D.int .i64 x.Id, D.int .i64 x.Kind, D.str x.Name, D.int .i64 x.Low, D.sl false 4 (List.map (TValue.e false) x.Keys), D.sl false 4 (List.map (TValue.e false) x.Vals), D.int .i64 x.Default.Kind, D.int .i64 x.Default.Num, D.str x.Default.Text, D.int .i64 x.Default.Ref]] sto = some (D.agg [D.int .i64 x.Id, D.int .i64 x.Kind, D.str x.Name, D.int .i64 x.Low, D.sl true 4 (List.map (TValue.e false) x.Keys), D.sl true 4 (List.map (TValue.e false) x.Vals), D.int .i64 x.Default.Kind, D.int .i64 x.Default.Num, D.str x.Default.Text, D.int .i64 x.Default.Ref], [], sto) := by
  simp only [TObject.n] at h
  rw [vcall_go T (g := v169) rfl rfl rfl _ _ rfl]
  simp (maxSteps := 9999999) (disch := omega) only [vx, px, ty, ↓reduceIte, Bool.false_eq_true, reduceCtorEq, Nat.reduceAdd, Nat.reduceSub, Nat.reduceLeDiff, Nat.reduceEqDiff, Nat.reduceLT, Nat.reduceMul, List.reduceReplicate, and_true, true_and, and_false, false_and, and_self, or_true, true_or, or_false, false_or, not_true_eq_false, not_false_eq_true, ne_eq, v169, v169_b, c_toValue, c_toValueS]
theorem l_toObjectS {R : Type} (e : En R) (sto : List (List D)) (k : List Fr) : ∀ (rest pre : List TObject) (i : Int), i = pre.length → pre.length + rest.length ≤ 1048576 → lsum TObject.n rest ≤ 1048576 →
    go T e v96_m1 (.lp v96_l1 :: .bl 0 :: .sq (.clr [2,4,5,6,7,8,9,10,11,12,13,14,15,16,17,18,19,20,21]) :: k) ⟨[.d (.sl false 10 (pre.map (TObject.e false) ++ rest.map (TObject.e false))), Z, Z, .d (.sl true 10 (pre.map (TObject.e true) ++ zerosD (.agg [.int .i64 0, .int .i64 0, .str .empty, .int .i64 0, .sl true 4 [], .sl true 4 [], .int .i64 0, .int .i64 0, .str .empty, .int .i64 0]) rest.length)), .d (.int .i64 i), Z, Z, Z, Z, Z, Z, Z, Z, Z, Z, Z, Z, Z, Z, Z, Z, Z, Z], sto⟩ = bk T e k ⟨[.d (.sl false 10 (pre.map (TObject.e false) ++ rest.map (TObject.e false))), Z, Z, .d (.sl true 10 (pre.map (TObject.e true) ++ rest.map (TObject.e true))), Z, Z, Z, Z, Z, Z, Z, Z, Z, Z, Z, Z, Z, Z, Z, Z, Z, Z, Z], sto⟩ := by
  intro rest
  induction rest with
  | nil =>
    intro pre i hi h1 h2
    have ht : i.toNat = pre.length := by omega
    unfold v96_m1
    simp (maxSteps := 9999999) (disch := omega) only [vx, px, ty, ↓reduceIte, Bool.false_eq_true, reduceCtorEq, Nat.reduceAdd, Nat.reduceSub, Nat.reduceLeDiff, Nat.reduceEqDiff, Nat.reduceLT, Nat.reduceMul, List.reduceReplicate, and_true, true_and, and_false, false_and, and_self, or_true, true_or, or_false, false_or, not_true_eq_false, not_false_eq_true, ne_eq, w96_1]
  | cons x rest ih =>
    intro pre i hi h1 h2
    have ht : i.toNat = pre.length := by omega
    rw [lsum_cons] at h2
    rw [List.length_cons] at h1
    unfold v96_m1
    simp (maxSteps := 9999999) (disch := omega) only [vx, px, ty, ↓reduceIte, Bool.false_eq_true, reduceCtorEq, Nat.reduceAdd, Nat.reduceSub, Nat.reduceLeDiff, Nat.reduceEqDiff, Nat.reduceLT, Nat.reduceMul, List.reduceReplicate, and_true, true_and, and_false, false_and, and_self, or_true, true_or, or_false, false_or, not_true_eq_false, not_false_eq_true, ne_eq, w96_1, ht, List.map_cons, ifT, c_toObject]
    have h := ih (pre ++ [x]) (i + 1) (by simp; omega) (by simp; omega) (by omega)
    simp only [map_snoc] at h
    exact h
theorem c_toObjectS (xs : List TObject) (sto : List (List D)) (h : xs.length ≤ 1048576) (h2 : lsum TObject.n xs ≤ 1048576) : vcall T 96 [.sl false 10 (xs.map (TObject.e false))] sto = some (.sl true 10 (xs.map (TObject.e true)), [], sto) := by
  have hm : xs.length ≤ xs.length ∧ xs.length ≤ most := ⟨Nat.le_refl _, by unfold most; omega⟩
  rw [vcall_go T (g := v96) rfl rfl rfl _ _ rfl]
  simp (maxSteps := 9999999) (disch := omega) only [vx, px, ty, ↓reduceIte, Bool.false_eq_true, reduceCtorEq, Nat.reduceAdd, Nat.reduceSub, Nat.reduceLeDiff, Nat.reduceEqDiff, Nat.reduceLT, Nat.reduceMul, List.reduceReplicate, and_true, true_and, and_false, false_and, and_self, or_true, true_or, or_false, false_or, not_true_eq_false, not_false_eq_true, ne_eq, v96, v96_b, w96_1, hm, ifT]
  have hl := fun k => l_toObjectS (enF [.tmp 2] []) sto k xs [] 0 rfl (by simp; omega) h2
  simp only [List.map_nil, List.nil_append] at hl
  rw [hl]
  simp (maxSteps := 9999999) (disch := omega) only [vx, px, ty, ↓reduceIte, Bool.false_eq_true, reduceCtorEq, Nat.reduceAdd, Nat.reduceSub, Nat.reduceLeDiff, Nat.reduceEqDiff, Nat.reduceLT, Nat.reduceMul, List.reduceReplicate, and_true, true_and, and_false, false_and, and_self, or_true, true_or, or_false, false_or, not_true_eq_false, not_false_eq_true, ne_eq]
theorem c_toHeap (x : THeap) (sto : List (List D)) (h : THeap.n x ≤ 1048576) : vcall T 38 [D.agg [D.int .i64 x.Next, D.sl false 10 (List.map (TObject.e false) x.Objects)]] sto = some (D.agg [D.int .i64 x.Next, D.sl true 10 (List.map (TObject.e true) x.Objects)], [], sto) := by
  simp only [THeap.n] at h
  rw [vcall_go T (g := v38) rfl rfl rfl _ _ rfl]
  simp (maxSteps := 9999999) (disch := omega) only [vx, px, ty, ↓reduceIte, Bool.false_eq_true, reduceCtorEq, Nat.reduceAdd, Nat.reduceSub, Nat.reduceLeDiff, Nat.reduceEqDiff, Nat.reduceLT, Nat.reduceMul, List.reduceReplicate, and_true, true_and, and_false, false_and, and_self, or_true, true_or, or_false, false_or, not_true_eq_false, not_false_eq_true, ne_eq, v38, v38_b, c_toObjectS]
theorem c_toFile (x : TFile) (sto : List (List D)) (h : TFile.n x ≤ 1048576) : vcall T 261 [D.agg [D.str x.Name, D.sl false 1 (List.map D.str x.Lines), D.int .i64 x.Mode, D.int .i64 x.At]] sto = some (D.agg [D.str x.Name, D.sl true 1 (List.map D.str x.Lines), D.int .i64 x.Mode, D.int .i64 x.At], [], sto) := by
  simp only [TFile.n] at h
  rw [vcall_go T (g := v261) rfl rfl rfl _ _ rfl]
  simp (maxSteps := 9999999) (disch := omega) only [vx, px, ty, ↓reduceIte, Bool.false_eq_true, reduceCtorEq, Nat.reduceAdd, Nat.reduceSub, Nat.reduceLeDiff, Nat.reduceEqDiff, Nat.reduceLT, Nat.reduceMul, List.reduceReplicate, and_true, true_and, and_false, false_and, and_self, or_true, true_or, or_false, false_or, not_true_eq_false, not_false_eq_true, ne_eq, v261, v261_b, c_toStringS]
theorem l_toFileS {R : Type} (e : En R) (sto : List (List D)) (k : List Fr) : ∀ (rest pre : List TFile) (i : Int), i = pre.length → pre.length + rest.length ≤ 1048576 → lsum TFile.n rest ≤ 1048576 →
    go T e v230_m1 (.lp v230_l1 :: .bl 0 :: .sq (.clr [2,4,5,6,7,8,9,10,11,12,13,14,15,16,17,18,19,20,21]) :: k) ⟨[.d (.sl false 4 (pre.map (TFile.e false) ++ rest.map (TFile.e false))), Z, Z, .d (.sl true 4 (pre.map (TFile.e true) ++ zerosD (.agg [.str .empty, .sl true 1 [], .int .i64 0, .int .i64 0]) rest.length)), .d (.int .i64 i), Z, Z, Z, Z, Z, Z, Z, Z, Z, Z, Z, Z, Z, Z, Z, Z, Z, Z], sto⟩ = bk T e k ⟨[.d (.sl false 4 (pre.map (TFile.e false) ++ rest.map (TFile.e false))), Z, Z, .d (.sl true 4 (pre.map (TFile.e true) ++ rest.map (TFile.e true))), Z, Z, Z, Z, Z, Z, Z, Z, Z, Z, Z, Z, Z, Z, Z, Z, Z, Z, Z], sto⟩ := by
  intro rest
  induction rest with
  | nil =>
    intro pre i hi h1 h2
    have ht : i.toNat = pre.length := by omega
    unfold v230_m1
    simp (maxSteps := 9999999) (disch := omega) only [vx, px, ty, ↓reduceIte, Bool.false_eq_true, reduceCtorEq, Nat.reduceAdd, Nat.reduceSub, Nat.reduceLeDiff, Nat.reduceEqDiff, Nat.reduceLT, Nat.reduceMul, List.reduceReplicate, and_true, true_and, and_false, false_and, and_self, or_true, true_or, or_false, false_or, not_true_eq_false, not_false_eq_true, ne_eq, w230_1]
  | cons x rest ih =>
    intro pre i hi h1 h2
    have ht : i.toNat = pre.length := by omega
    rw [lsum_cons] at h2
    rw [List.length_cons] at h1
    unfold v230_m1
    simp (maxSteps := 9999999) (disch := omega) only [vx, px, ty, ↓reduceIte, Bool.false_eq_true, reduceCtorEq, Nat.reduceAdd, Nat.reduceSub, Nat.reduceLeDiff, Nat.reduceEqDiff, Nat.reduceLT, Nat.reduceMul, List.reduceReplicate, and_true, true_and, and_false, false_and, and_self, or_true, true_or, or_false, false_or, not_true_eq_false, not_false_eq_true, ne_eq, w230_1, ht, List.map_cons, ifT, c_toFile]
    have h := ih (pre ++ [x]) (i + 1) (by simp; omega) (by simp; omega) (by omega)
    simp only [map_snoc] at h
    exact h
theorem c_toFileS (xs : List TFile) (sto : List (List D)) (h : xs.length ≤ 1048576) (h2 : lsum TFile.n xs ≤ 1048576) : vcall T 230 [.sl false 4 (xs.map (TFile.e false))] sto = some (.sl true 4 (xs.map (TFile.e true)), [], sto) := by
  have hm : xs.length ≤ xs.length ∧ xs.length ≤ most := ⟨Nat.le_refl _, by unfold most; omega⟩
  rw [vcall_go T (g := v230) rfl rfl rfl _ _ rfl]
  simp (maxSteps := 9999999) (disch := omega) only [vx, px, ty, ↓reduceIte, Bool.false_eq_true, reduceCtorEq, Nat.reduceAdd, Nat.reduceSub, Nat.reduceLeDiff, Nat.reduceEqDiff, Nat.reduceLT, Nat.reduceMul, List.reduceReplicate, and_true, true_and, and_false, false_and, and_self, or_true, true_or, or_false, false_or, not_true_eq_false, not_false_eq_true, ne_eq, v230, v230_b, w230_1, hm, ifT]
  have hl := fun k => l_toFileS (enF [.tmp 2] []) sto k xs [] 0 rfl (by simp; omega) h2
  simp only [List.map_nil, List.nil_append] at hl
  rw [hl]
  simp (maxSteps := 9999999) (disch := omega) only [vx, px, ty, ↓reduceIte, Bool.false_eq_true, reduceCtorEq, Nat.reduceAdd, Nat.reduceSub, Nat.reduceLeDiff, Nat.reduceEqDiff, Nat.reduceLT, Nat.reduceMul, List.reduceReplicate, and_true, true_and, and_false, false_and, and_self, or_true, true_or, or_false, false_or, not_true_eq_false, not_false_eq_true, ne_eq]
theorem c_toConsole (x : TConsole) (sto : List (List D)) (h : TConsole.n x ≤ 1048576) : vcall T 188 [D.agg [D.sl false 1 (List.map D.str x.Input), D.int .i64 x.At, D.sl false 1 (List.map D.str x.Output), D.sl false 4 (List.map (TFile.e false) x.Files), D.sl false 1 (List.map D.str x.Trace)]] sto = some (D.agg [D.sl true 1 (List.map D.str x.Input), D.int .i64 x.At, D.sl true 1 (List.map D.str x.Output), D.sl true 4 (List.map (TFile.e true) x.Files), D.sl true 1 (List.map D.str x.Trace)], [], sto) := by
  simp only [TConsole.n] at h
  rw [vcall_go T (g := v188) rfl rfl rfl _ _ rfl]
  simp (maxSteps := 9999999) (disch := omega) only [vx, px, ty, ↓reduceIte, Bool.false_eq_true, reduceCtorEq, Nat.reduceAdd, Nat.reduceSub, Nat.reduceLeDiff, Nat.reduceEqDiff, Nat.reduceLT, Nat.reduceMul, List.reduceReplicate, and_true, true_and, and_false, false_and, and_self, or_true, true_or, or_false, false_or, not_true_eq_false, not_false_eq_true, ne_eq, v188, v188_b, c_toFileS, c_toStringS]
theorem c_toMemory (x : TMemory) (sto : List (List D)) (h : TMemory.n x ≤ 1048576) : vcall T 118 [D.agg [D.int .i64 x.Heap.Next, D.sl false 10 (List.map (TObject.e false) x.Heap.Objects), D.sl false 5 (List.map (TBinding.e false) x.Scope.Vars), D.sl false 4 (List.map (TFunction.e false) x.Scope.Functions), D.sl false 2 (List.map (TRecordType.e false) x.Scope.Types), D.sl false 1 (List.map D.str x.Console.Input), D.int .i64 x.Console.At, D.sl false 1 (List.map D.str x.Console.Output), D.sl false 4 (List.map (TFile.e false) x.Console.Files), D.sl false 1 (List.map D.str x.Console.Trace)]] sto = some (D.agg [D.int .i64 x.Heap.Next, D.sl true 10 (List.map (TObject.e true) x.Heap.Objects), D.sl true 5 (List.map (TBinding.e false) x.Scope.Vars), D.sl true 4 (List.map (TFunction.e true) x.Scope.Functions), D.sl true 2 (List.map (TRecordType.e true) x.Scope.Types), D.sl true 1 (List.map D.str x.Console.Input), D.int .i64 x.Console.At, D.sl true 1 (List.map D.str x.Console.Output), D.sl true 4 (List.map (TFile.e true) x.Console.Files), D.sl true 1 (List.map D.str x.Console.Trace)], [], sto) := by
  simp only [TMemory.n] at h
  rw [vcall_go T (g := v118) rfl rfl rfl _ _ rfl]
  simp (maxSteps := 9999999) (disch := omega) only [vx, px, ty, ↓reduceIte, Bool.false_eq_true, reduceCtorEq, Nat.reduceAdd, Nat.reduceSub, Nat.reduceLeDiff, Nat.reduceEqDiff, Nat.reduceLT, Nat.reduceMul, List.reduceReplicate, and_true, true_and, and_false, false_and, and_self, or_true, true_or, or_false, false_or, not_true_eq_false, not_false_eq_true, ne_eq, v118, v118_b, c_toConsole, c_toHeap, c_toScope]
theorem c_toCallFrame (x : TCallFrame) (sto : List (List D)) (h : TCallFrame.n x ≤ 1048576) : vcall T 189 [D.agg [D.str x.Name, D.sl false 5 (List.map (TBinding.e false) x.Saved), D.int .i64 x.PC, D.int .i64 x.Base, D.int .i64 x.At]] sto = some (D.agg [D.str x.Name, D.sl true 5 (List.map (TBinding.e false) x.Saved), D.int .i64 x.PC, D.int .i64 x.Base, D.int .i64 x.At], [], sto) := by
  simp only [TCallFrame.n] at h
  rw [vcall_go T (g := v189) rfl rfl rfl _ _ rfl]
  simp (maxSteps := 9999999) (disch := omega) only [vx, px, ty, ↓reduceIte, Bool.false_eq_true, reduceCtorEq, Nat.reduceAdd, Nat.reduceSub, Nat.reduceLeDiff, Nat.reduceEqDiff, Nat.reduceLT, Nat.reduceMul, List.reduceReplicate, and_true, true_and, and_false, false_and, and_self, or_true, true_or, or_false, false_or, not_true_eq_false, not_false_eq_true, ne_eq, v189, v189_b, c_toBindingS]
theorem l_toCallFrameS {R : Type} (e : En R) (sto : List (List D)) (k : List Fr) : ∀ (rest pre : List TCallFrame) (i : Int), i = pre.length → pre.length + rest.length ≤ 1048576 → lsum TCallFrame.n rest ≤ 1048576 →
    go T e v119_m1 (.lp v119_l1 :: .bl 0 :: .sq (.clr [2,4,5,6,7,8,9,10,11,12,13,14,15,16,17,18,19,20,21]) :: k) ⟨[.d (.sl false 5 (pre.map (TCallFrame.e false) ++ rest.map (TCallFrame.e false))), Z, Z, .d (.sl true 5 (pre.map (TCallFrame.e true) ++ zerosD (.agg [.str .empty, .sl true 5 [], .int .i64 0, .int .i64 0, .int .i64 0]) rest.length)), .d (.int .i64 i), Z, Z, Z, Z, Z, Z, Z, Z, Z, Z, Z, Z, Z, Z, Z, Z, Z, Z], sto⟩ = bk T e k ⟨[.d (.sl false 5 (pre.map (TCallFrame.e false) ++ rest.map (TCallFrame.e false))), Z, Z, .d (.sl true 5 (pre.map (TCallFrame.e true) ++ rest.map (TCallFrame.e true))), Z, Z, Z, Z, Z, Z, Z, Z, Z, Z, Z, Z, Z, Z, Z, Z, Z, Z, Z], sto⟩ := by
  intro rest
  induction rest with
  | nil =>
    intro pre i hi h1 h2
    have ht : i.toNat = pre.length := by omega
    unfold v119_m1
    simp (maxSteps := 9999999) (disch := omega) only [vx, px, ty, ↓reduceIte, Bool.false_eq_true, reduceCtorEq, Nat.reduceAdd, Nat.reduceSub, Nat.reduceLeDiff, Nat.reduceEqDiff, Nat.reduceLT, Nat.reduceMul, List.reduceReplicate, and_true, true_and, and_false, false_and, and_self, or_true, true_or, or_false, false_or, not_true_eq_false, not_false_eq_true, ne_eq, w119_1]
  | cons x rest ih =>
    intro pre i hi h1 h2
    have ht : i.toNat = pre.length := by omega
    rw [lsum_cons] at h2
    rw [List.length_cons] at h1
    unfold v119_m1
    simp (maxSteps := 9999999) (disch := omega) only [vx, px, ty, ↓reduceIte, Bool.false_eq_true, reduceCtorEq, Nat.reduceAdd, Nat.reduceSub, Nat.reduceLeDiff, Nat.reduceEqDiff, Nat.reduceLT, Nat.reduceMul, List.reduceReplicate, and_true, true_and, and_false, false_and, and_self, or_true, true_or, or_false, false_or, not_true_eq_false, not_false_eq_true, ne_eq, w119_1, ht, List.map_cons, ifT, c_toCallFrame]
    have h := ih (pre ++ [x]) (i + 1) (by simp; omega) (by simp; omega) (by omega)
    simp only [map_snoc] at h
    exact h
theorem c_toCallFrameS (xs : List TCallFrame) (sto : List (List D)) (h : xs.length ≤ 1048576) (h2 : lsum TCallFrame.n xs ≤ 1048576) : vcall T 119 [.sl false 5 (xs.map (TCallFrame.e false))] sto = some (.sl true 5 (xs.map (TCallFrame.e true)), [], sto) := by
  have hm : xs.length ≤ xs.length ∧ xs.length ≤ most := ⟨Nat.le_refl _, by unfold most; omega⟩
  rw [vcall_go T (g := v119) rfl rfl rfl _ _ rfl]
  simp (maxSteps := 9999999) (disch := omega) only [vx, px, ty, ↓reduceIte, Bool.false_eq_true, reduceCtorEq, Nat.reduceAdd, Nat.reduceSub, Nat.reduceLeDiff, Nat.reduceEqDiff, Nat.reduceLT, Nat.reduceMul, List.reduceReplicate, and_true, true_and, and_false, false_and, and_self, or_true, true_or, or_false, false_or, not_true_eq_false, not_false_eq_true, ne_eq, v119, v119_b, w119_1, hm, ifT]
  have hl := fun k => l_toCallFrameS (enF [.tmp 2] []) sto k xs [] 0 rfl (by simp; omega) h2
  simp only [List.map_nil, List.nil_append] at hl
  rw [hl]
  simp (maxSteps := 9999999) (disch := omega) only [vx, px, ty, ↓reduceIte, Bool.false_eq_true, reduceCtorEq, Nat.reduceAdd, Nat.reduceSub, Nat.reduceLeDiff, Nat.reduceEqDiff, Nat.reduceLT, Nat.reduceMul, List.reduceReplicate, and_true, true_and, and_false, false_and, and_self, or_true, true_or, or_false, false_or, not_true_eq_false, not_false_eq_true, ne_eq]
theorem c_toMachine (x : TMachine) (sto : List (List D)) (h : TMachine.n x ≤ 1048576) : vcall T 54 [D.agg [D.int .i64 x.Status, D.int .i64 x.Code, D.int .i64 x.Memory.Heap.Next, D.sl false 10 (List.map (TObject.e false) x.Memory.Heap.Objects), D.sl false 5 (List.map (TBinding.e false) x.Memory.Scope.Vars), D.sl false 4 (List.map (TFunction.e false) x.Memory.Scope.Functions), D.sl false 2 (List.map (TRecordType.e false) x.Memory.Scope.Types), D.sl false 1 (List.map D.str x.Memory.Console.Input), D.int .i64 x.Memory.Console.At, D.sl false 1 (List.map D.str x.Memory.Console.Output), D.sl false 4 (List.map (TFile.e false) x.Memory.Console.Files), D.sl false 1 (List.map D.str x.Memory.Console.Trace), D.sl false 4 (List.map (TValue.e false) x.Stack), D.sl false 5 (List.map (TCallFrame.e false) x.Frames), D.int .i64 x.PC, D.int .i64 x.Base, D.int .i64 x.At, D.int .i64 x.Steps, D.int .i64 x.Fuel]] sto = some (D.agg [D.int .i64 x.Status, D.int .i64 x.Code, D.int .i64 x.Memory.Heap.Next, D.sl true 10 (List.map (TObject.e true) x.Memory.Heap.Objects), D.sl true 5 (List.map (TBinding.e false) x.Memory.Scope.Vars), D.sl true 4 (List.map (TFunction.e true) x.Memory.Scope.Functions), D.sl true 2 (List.map (TRecordType.e true) x.Memory.Scope.Types), D.sl true 1 (List.map D.str x.Memory.Console.Input), D.int .i64 x.Memory.Console.At, D.sl true 1 (List.map D.str x.Memory.Console.Output), D.sl true 4 (List.map (TFile.e true) x.Memory.Console.Files), D.sl true 1 (List.map D.str x.Memory.Console.Trace), D.sl true 4 (List.map (TValue.e false) x.Stack), D.sl true 5 (List.map (TCallFrame.e true) x.Frames), D.int .i64 x.PC, D.int .i64 x.Base, D.int .i64 x.At, D.int .i64 x.Steps, D.int .i64 x.Fuel], [], sto) := by
  simp only [TMachine.n] at h
  rw [vcall_go T (g := v54) rfl rfl rfl _ _ rfl]
  simp (maxSteps := 9999999) (disch := omega) only [vx, px, ty, ↓reduceIte, Bool.false_eq_true, reduceCtorEq, Nat.reduceAdd, Nat.reduceSub, Nat.reduceLeDiff, Nat.reduceEqDiff, Nat.reduceLT, Nat.reduceMul, List.reduceReplicate, and_true, true_and, and_false, false_and, and_self, or_true, true_or, or_false, false_or, not_true_eq_false, not_false_eq_true, ne_eq, v54, v54_b, c_toCallFrameS, c_toMemory, c_toValueS]
end Go.Vx.OcZ
