/-
  The laws' own functions: eq.
-/

import Derived.Test.YthfkpkfcnnhkeaaGreatTypes
import Derived.Test.YthfkpkfcnnhkeaaGreatCode
set_option linter.unusedVariables false
set_option linter.unusedSimpArgs false
namespace Go.Vx.OcZ
set_option linter.unusedVariables false
set_option linter.unusedSimpArgs false
set_option maxRecDepth 4000
set_option maxHeartbeats 4000000
theorem l_eqStringS {R : Type} (e : En R) (sto : List (List D)) (k : List Fr) : ∀ (rest pre : List ByteArray) (i : Int), i = pre.length → pre.length + rest.length ≤ 1048576 → lsum ByteArray.size rest ≤ 1048576 →
    go T e v19_m1 (.lp v19_l1 :: .bl 0 :: .sq (.clr [4,5,6,7,8,9,10,11,12,13,14,15,16,17,18,19,20,21,22,23,24,25]) :: k) ⟨[.d (.sl false 1 (pre.map D.str ++ rest.map D.str)), .d (.sl false 1 (pre.map D.str ++ rest.map D.str)), Z, Z, Z, .d (.int .i64 i), Z, Z, Z, Z, Z, Z, Z, Z, Z, Z, Z, Z, Z, Z, Z, Z, Z, Z, Z, Z], sto⟩ = bk T e k ⟨[.d (.sl false 1 (pre.map D.str ++ rest.map D.str)), .d (.sl false 1 (pre.map D.str ++ rest.map D.str)), Z, Z, Z, Z, Z, Z, Z, Z, Z, Z, Z, Z, Z, Z, Z, Z, Z, Z, Z, Z, Z, Z, Z, Z], sto⟩ := by
  intro rest
  induction rest with
  | nil =>
    intro pre i hi h1 h2
    have ht : i.toNat = pre.length := by omega
    unfold v19_m1
    simp (maxSteps := 9999999) (disch := omega) only [vx, px, ty, ↓reduceIte, Bool.false_eq_true, reduceCtorEq, Nat.reduceAdd, Nat.reduceSub, Nat.reduceLeDiff, Nat.reduceEqDiff, Nat.reduceLT, Nat.reduceMul, List.reduceReplicate, and_true, true_and, and_false, false_and, and_self, or_true, true_or, or_false, false_or, not_true_eq_false, not_false_eq_true, ne_eq, w19_1]
  | cons x rest ih =>
    intro pre i hi h1 h2
    have ht : i.toNat = pre.length := by omega
    rw [lsum_cons] at h2
    rw [List.length_cons] at h1
    unfold v19_m1
    simp (maxSteps := 9999999) (disch := omega) only [vx, px, ty, ↓reduceIte, Bool.false_eq_true, reduceCtorEq, Nat.reduceAdd, Nat.reduceSub, Nat.reduceLeDiff, Nat.reduceEqDiff, Nat.reduceLT, Nat.reduceMul, List.reduceReplicate, and_true, true_and, and_false, false_and, and_self, or_true, true_or, or_false, false_or, not_true_eq_false, not_false_eq_true, ne_eq, vxd, Nat.reduceBNe, w19_1, ht, List.map_cons, ifT]
    have h := ih (pre ++ [x]) (i + 1) (by simp; omega) (by simp; omega) (by omega)
    simp only [map_snoc] at h
    exact h
theorem c_eqStringS (xs : List ByteArray) (sto : List (List D)) (h : xs.length ≤ 1048576) (h2 : lsum ByteArray.size xs ≤ 1048576) : vcall T 19 [.sl false 1 (xs.map D.str), .sl false 1 (xs.map D.str)] sto = some (.bool true, [], sto) := by
  rw [vcall_go T (g := v19) rfl rfl rfl _ _ rfl]
  simp (maxSteps := 9999999) (disch := omega) only [vx, px, ty, ↓reduceIte, Bool.false_eq_true, reduceCtorEq, Nat.reduceAdd, Nat.reduceSub, Nat.reduceLeDiff, Nat.reduceEqDiff, Nat.reduceLT, Nat.reduceMul, List.reduceReplicate, and_true, true_and, and_false, false_and, and_self, or_true, true_or, or_false, false_or, not_true_eq_false, not_false_eq_true, ne_eq, v19, v19_b, w19_1]
  have hl := fun k => l_eqStringS (enF [.tmp 4] []) sto k xs [] 0 rfl (by simp; omega) h2
  simp only [List.map_nil, List.nil_append] at hl
  rw [hl]
  simp (maxSteps := 9999999) (disch := omega) only [vx, px, ty, ↓reduceIte, Bool.false_eq_true, reduceCtorEq, Nat.reduceAdd, Nat.reduceSub, Nat.reduceLeDiff, Nat.reduceEqDiff, Nat.reduceLT, Nat.reduceMul, List.reduceReplicate, and_true, true_and, and_false, false_and, and_self, or_true, true_or, or_false, false_or, not_true_eq_false, not_false_eq_true, ne_eq]
theorem c_eqValue (x : TValue) (sto : List (List D)) (h : TValue.n x ≤ 1048576) : vcall T 41 [D.agg [D.int .i64 x.Kind, D.int .i64 x.Num, D.str x.Text, D.int .i64 x.Ref], D.agg [D.int .i64 x.Kind, D.int .i64 x.Num, D.str x.Text, D.int .i64 x.Ref]] sto = some (.bool true, [], sto) := by
  simp only [TValue.n] at h
  rw [vcall_go T (g := v41) rfl rfl rfl _ _ rfl]
  simp (maxSteps := 9999999) (disch := omega) only [vx, px, ty, ↓reduceIte, Bool.false_eq_true, reduceCtorEq, Nat.reduceAdd, Nat.reduceSub, Nat.reduceLeDiff, Nat.reduceEqDiff, Nat.reduceLT, Nat.reduceMul, List.reduceReplicate, and_true, true_and, and_false, false_and, and_self, or_true, true_or, or_false, false_or, not_true_eq_false, not_false_eq_true, ne_eq, v41, v41_b]
theorem l_eqValueS {R : Type} (e : En R) (sto : List (List D)) (k : List Fr) : ∀ (rest pre : List TValue) (i : Int), i = pre.length → pre.length + rest.length ≤ 1048576 → lsum TValue.n rest ≤ 1048576 →
    go T e v33_m1 (.lp v33_l1 :: .bl 0 :: .sq (.clr [4,5,6,7,8,9,10,11,12,13,14,15,16,17,18,19,20,21,22,23,24,25,26]) :: k) ⟨[.d (.sl false 4 (pre.map (TValue.e false) ++ rest.map (TValue.e false))), .d (.sl false 4 (pre.map (TValue.e false) ++ rest.map (TValue.e false))), Z, Z, Z, .d (.int .i64 i), Z, Z, Z, Z, Z, Z, Z, Z, Z, Z, Z, Z, Z, Z, Z, Z, Z, Z, Z, Z, Z], sto⟩ = bk T e k ⟨[.d (.sl false 4 (pre.map (TValue.e false) ++ rest.map (TValue.e false))), .d (.sl false 4 (pre.map (TValue.e false) ++ rest.map (TValue.e false))), Z, Z, Z, Z, Z, Z, Z, Z, Z, Z, Z, Z, Z, Z, Z, Z, Z, Z, Z, Z, Z, Z, Z, Z, Z], sto⟩ := by
  intro rest
  induction rest with
  | nil =>
    intro pre i hi h1 h2
    have ht : i.toNat = pre.length := by omega
    unfold v33_m1
    simp (maxSteps := 9999999) (disch := omega) only [vx, px, ty, ↓reduceIte, Bool.false_eq_true, reduceCtorEq, Nat.reduceAdd, Nat.reduceSub, Nat.reduceLeDiff, Nat.reduceEqDiff, Nat.reduceLT, Nat.reduceMul, List.reduceReplicate, and_true, true_and, and_false, false_and, and_self, or_true, true_or, or_false, false_or, not_true_eq_false, not_false_eq_true, ne_eq, w33_1]
  | cons x rest ih =>
    intro pre i hi h1 h2
    have ht : i.toNat = pre.length := by omega
    rw [lsum_cons] at h2
    rw [List.length_cons] at h1
    unfold v33_m1
    simp (maxSteps := 9999999) (disch := omega) only [vx, px, ty, ↓reduceIte, Bool.false_eq_true, reduceCtorEq, Nat.reduceAdd, Nat.reduceSub, Nat.reduceLeDiff, Nat.reduceEqDiff, Nat.reduceLT, Nat.reduceMul, List.reduceReplicate, and_true, true_and, and_false, false_and, and_self, or_true, true_or, or_false, false_or, not_true_eq_false, not_false_eq_true, ne_eq, vxd, Nat.reduceBNe, w33_1, ht, List.map_cons, ifT, c_eqValue]
    have h := ih (pre ++ [x]) (i + 1) (by simp; omega) (by simp; omega) (by omega)
    simp only [map_snoc] at h
    exact h
theorem c_eqValueS (xs : List TValue) (sto : List (List D)) (h : xs.length ≤ 1048576) (h2 : lsum TValue.n xs ≤ 1048576) : vcall T 33 [.sl false 4 (xs.map (TValue.e false)), .sl false 4 (xs.map (TValue.e false))] sto = some (.bool true, [], sto) := by
  rw [vcall_go T (g := v33) rfl rfl rfl _ _ rfl]
  simp (maxSteps := 9999999) (disch := omega) only [vx, px, ty, ↓reduceIte, Bool.false_eq_true, reduceCtorEq, Nat.reduceAdd, Nat.reduceSub, Nat.reduceLeDiff, Nat.reduceEqDiff, Nat.reduceLT, Nat.reduceMul, List.reduceReplicate, and_true, true_and, and_false, false_and, and_self, or_true, true_or, or_false, false_or, not_true_eq_false, not_false_eq_true, ne_eq, v33, v33_b, w33_1]
  have hl := fun k => l_eqValueS (enF [.tmp 4] []) sto k xs [] 0 rfl (by simp; omega) h2
  simp only [List.map_nil, List.nil_append] at hl
  rw [hl]
  simp (maxSteps := 9999999) (disch := omega) only [vx, px, ty, ↓reduceIte, Bool.false_eq_true, reduceCtorEq, Nat.reduceAdd, Nat.reduceSub, Nat.reduceLeDiff, Nat.reduceEqDiff, Nat.reduceLT, Nat.reduceMul, List.reduceReplicate, and_true, true_and, and_false, false_and, and_self, or_true, true_or, or_false, false_or, not_true_eq_false, not_false_eq_true, ne_eq]
theorem c_eqBinding (x : TBinding) (sto : List (List D)) (h : TBinding.n x ≤ 1048576) : vcall T 76 [D.agg [D.str x.Name, D.int .i64 x.Value.Kind, D.int .i64 x.Value.Num, D.str x.Value.Text, D.int .i64 x.Value.Ref], D.agg [D.str x.Name, D.int .i64 x.Value.Kind, D.int .i64 x.Value.Num, D.str x.Value.Text, D.int .i64 x.Value.Ref]] sto = some (.bool true, [], sto) := by
  simp only [TBinding.n] at h
  rw [vcall_go T (g := v76) rfl rfl rfl _ _ rfl]
  simp (maxSteps := 9999999) (disch := omega) only [vx, px, ty, ↓reduceIte, Bool.false_eq_true, reduceCtorEq, Nat.reduceAdd, Nat.reduceSub, Nat.reduceLeDiff, Nat.reduceEqDiff, Nat.reduceLT, Nat.reduceMul, List.reduceReplicate, and_true, true_and, and_false, false_and, and_self, or_true, true_or, or_false, false_or, not_true_eq_false, not_false_eq_true, ne_eq, v76, v76_b, c_eqValue]
theorem l_eqBindingS {R : Type} (e : En R) (sto : List (List D)) (k : List Fr) : ∀ (rest pre : List TBinding) (i : Int), i = pre.length → pre.length + rest.length ≤ 1048576 → lsum TBinding.n rest ≤ 1048576 →
    go T e v17_m1 (.lp v17_l1 :: .bl 0 :: .sq (.clr [4,5,6,7,8,9,10,11,12,13,14,15,16,17,18,19,20,21,22,23,24,25,26]) :: k) ⟨[.d (.sl false 5 (pre.map (TBinding.e false) ++ rest.map (TBinding.e false))), .d (.sl false 5 (pre.map (TBinding.e false) ++ rest.map (TBinding.e false))), Z, Z, Z, .d (.int .i64 i), Z, Z, Z, Z, Z, Z, Z, Z, Z, Z, Z, Z, Z, Z, Z, Z, Z, Z, Z, Z, Z], sto⟩ = bk T e k ⟨[.d (.sl false 5 (pre.map (TBinding.e false) ++ rest.map (TBinding.e false))), .d (.sl false 5 (pre.map (TBinding.e false) ++ rest.map (TBinding.e false))), Z, Z, Z, Z, Z, Z, Z, Z, Z, Z, Z, Z, Z, Z, Z, Z, Z, Z, Z, Z, Z, Z, Z, Z, Z], sto⟩ := by
  intro rest
  induction rest with
  | nil =>
    intro pre i hi h1 h2
    have ht : i.toNat = pre.length := by omega
    unfold v17_m1
    simp (maxSteps := 9999999) (disch := omega) only [vx, px, ty, ↓reduceIte, Bool.false_eq_true, reduceCtorEq, Nat.reduceAdd, Nat.reduceSub, Nat.reduceLeDiff, Nat.reduceEqDiff, Nat.reduceLT, Nat.reduceMul, List.reduceReplicate, and_true, true_and, and_false, false_and, and_self, or_true, true_or, or_false, false_or, not_true_eq_false, not_false_eq_true, ne_eq, w17_1]
  | cons x rest ih =>
    intro pre i hi h1 h2
    have ht : i.toNat = pre.length := by omega
    rw [lsum_cons] at h2
    rw [List.length_cons] at h1
    unfold v17_m1
    simp (maxSteps := 9999999) (disch := omega) only [vx, px, ty, ↓reduceIte, Bool.false_eq_true, reduceCtorEq, Nat.reduceAdd, Nat.reduceSub, Nat.reduceLeDiff, Nat.reduceEqDiff, Nat.reduceLT, Nat.reduceMul, List.reduceReplicate, and_true, true_and, and_false, false_and, and_self, or_true, true_or, or_false, false_or, not_true_eq_false, not_false_eq_true, ne_eq, vxd, Nat.reduceBNe, w17_1, ht, List.map_cons, ifT, c_eqBinding]
    have h := ih (pre ++ [x]) (i + 1) (by simp; omega) (by simp; omega) (by omega)
    simp only [map_snoc] at h
    exact h
theorem c_eqBindingS (xs : List TBinding) (sto : List (List D)) (h : xs.length ≤ 1048576) (h2 : lsum TBinding.n xs ≤ 1048576) : vcall T 17 [.sl false 5 (xs.map (TBinding.e false)), .sl false 5 (xs.map (TBinding.e false))] sto = some (.bool true, [], sto) := by
  rw [vcall_go T (g := v17) rfl rfl rfl _ _ rfl]
  simp (maxSteps := 9999999) (disch := omega) only [vx, px, ty, ↓reduceIte, Bool.false_eq_true, reduceCtorEq, Nat.reduceAdd, Nat.reduceSub, Nat.reduceLeDiff, Nat.reduceEqDiff, Nat.reduceLT, Nat.reduceMul, List.reduceReplicate, and_true, true_and, and_false, false_and, and_self, or_true, true_or, or_false, false_or, not_true_eq_false, not_false_eq_true, ne_eq, v17, v17_b, w17_1]
  have hl := fun k => l_eqBindingS (enF [.tmp 4] []) sto k xs [] 0 rfl (by simp; omega) h2
  simp only [List.map_nil, List.nil_append] at hl
  rw [hl]
  simp (maxSteps := 9999999) (disch := omega) only [vx, px, ty, ↓reduceIte, Bool.false_eq_true, reduceCtorEq, Nat.reduceAdd, Nat.reduceSub, Nat.reduceLeDiff, Nat.reduceEqDiff, Nat.reduceLT, Nat.reduceMul, List.reduceReplicate, and_true, true_and, and_false, false_and, and_self, or_true, true_or, or_false, false_or, not_true_eq_false, not_false_eq_true, ne_eq]
theorem c_eqFunction (x : TFunction) (sto : List (List D)) (h : TFunction.n x ≤ 1048576) : vcall T 26 [D.agg [D.str x.Name, D.sl false 1 (List.map D.str x.Params), D.sl false 1 (List.map D.str x.Locals), D.str x.Label], D.agg [D.str x.Name, D.sl false 1 (List.map D.str x.Params), D.sl false 1 (List.map D.str x.Locals), D.str x.Label]] sto = some (.bool true, [], sto) := by
  simp only [TFunction.n] at h
  rw [vcall_go T (g := v26) rfl rfl rfl _ _ rfl]
  simp (maxSteps := 9999999) (disch := omega) only [vx, px, ty, ↓reduceIte, Bool.false_eq_true, reduceCtorEq, Nat.reduceAdd, Nat.reduceSub, Nat.reduceLeDiff, Nat.reduceEqDiff, Nat.reduceLT, Nat.reduceMul, List.reduceReplicate, and_true, true_and, and_false, false_and, and_self, or_true, true_or, or_false, false_or, not_true_eq_false, not_false_eq_true, ne_eq, v26, v26_b, c_eqStringS]
theorem l_eqFunctionS {R : Type} (e : En R) (sto : List (List D)) (k : List Fr) : ∀ (rest pre : List TFunction) (i : Int), i = pre.length → pre.length + rest.length ≤ 1048576 → lsum TFunction.n rest ≤ 1048576 →
    go T e v77_m1 (.lp v77_l1 :: .bl 0 :: .sq (.clr [4,5,6,7,8,9,10,11,12,13,14,15,16,17,18,19,20,21,22,23,24,25,26]) :: k) ⟨[.d (.sl false 4 (pre.map (TFunction.e false) ++ rest.map (TFunction.e false))), .d (.sl false 4 (pre.map (TFunction.e false) ++ rest.map (TFunction.e false))), Z, Z, Z, .d (.int .i64 i), Z, Z, Z, Z, Z, Z, Z, Z, Z, Z, Z, Z, Z, Z, Z, Z, Z, Z, Z, Z, Z], sto⟩ = bk T e k ⟨[.d (.sl false 4 (pre.map (TFunction.e false) ++ rest.map (TFunction.e false))), .d (.sl false 4 (pre.map (TFunction.e false) ++ rest.map (TFunction.e false))), Z, Z, Z, Z, Z, Z, Z, Z, Z, Z, Z, Z, Z, Z, Z, Z, Z, Z, Z, Z, Z, Z, Z, Z, Z], sto⟩ := by
  intro rest
  induction rest with
  | nil =>
    intro pre i hi h1 h2
    have ht : i.toNat = pre.length := by omega
    unfold v77_m1
    simp (maxSteps := 9999999) (disch := omega) only [vx, px, ty, ↓reduceIte, Bool.false_eq_true, reduceCtorEq, Nat.reduceAdd, Nat.reduceSub, Nat.reduceLeDiff, Nat.reduceEqDiff, Nat.reduceLT, Nat.reduceMul, List.reduceReplicate, and_true, true_and, and_false, false_and, and_self, or_true, true_or, or_false, false_or, not_true_eq_false, not_false_eq_true, ne_eq, w77_1]
  | cons x rest ih =>
    intro pre i hi h1 h2
    have ht : i.toNat = pre.length := by omega
    rw [lsum_cons] at h2
    rw [List.length_cons] at h1
    unfold v77_m1
    simp (maxSteps := 9999999) (disch := omega) only [vx, px, ty, ↓reduceIte, Bool.false_eq_true, reduceCtorEq, Nat.reduceAdd, Nat.reduceSub, Nat.reduceLeDiff, Nat.reduceEqDiff, Nat.reduceLT, Nat.reduceMul, List.reduceReplicate, and_true, true_and, and_false, false_and, and_self, or_true, true_or, or_false, false_or, not_true_eq_false, not_false_eq_true, ne_eq, vxd, Nat.reduceBNe, w77_1, ht, List.map_cons, ifT, c_eqFunction]
    have h := ih (pre ++ [x]) (i + 1) (by simp; omega) (by simp; omega) (by omega)
    simp only [map_snoc] at h
    exact h
theorem c_eqFunctionS (xs : List TFunction) (sto : List (List D)) (h : xs.length ≤ 1048576) (h2 : lsum TFunction.n xs ≤ 1048576) : vcall T 77 [.sl false 4 (xs.map (TFunction.e false)), .sl false 4 (xs.map (TFunction.e false))] sto = some (.bool true, [], sto) := by
  rw [vcall_go T (g := v77) rfl rfl rfl _ _ rfl]
  simp (maxSteps := 9999999) (disch := omega) only [vx, px, ty, ↓reduceIte, Bool.false_eq_true, reduceCtorEq, Nat.reduceAdd, Nat.reduceSub, Nat.reduceLeDiff, Nat.reduceEqDiff, Nat.reduceLT, Nat.reduceMul, List.reduceReplicate, and_true, true_and, and_false, false_and, and_self, or_true, true_or, or_false, false_or, not_true_eq_false, not_false_eq_true, ne_eq, v77, v77_b, w77_1]
  have hl := fun k => l_eqFunctionS (enF [.tmp 4] []) sto k xs [] 0 rfl (by simp; omega) h2
  simp only [List.map_nil, List.nil_append] at hl
  rw [hl]
  simp (maxSteps := 9999999) (disch := omega) only [vx, px, ty, ↓reduceIte, Bool.false_eq_true, reduceCtorEq, Nat.reduceAdd, Nat.reduceSub, Nat.reduceLeDiff, Nat.reduceEqDiff, Nat.reduceLT, Nat.reduceMul, List.reduceReplicate, and_true, true_and, and_false, false_and, and_self, or_true, true_or, or_false, false_or, not_true_eq_false, not_false_eq_true, ne_eq]
theorem c_eqRecordType (x : TRecordType) (sto : List (List D)) (h : TRecordType.n x ≤ 1048576) : vcall T 159 [D.agg [D.str x.Name, D.sl false 1 (List.map D.str x.Fields)], D.agg [D.str x.Name, D.sl false 1 (List.map D.str x.Fields)]] sto = some (.bool true, [], sto) := by
  simp only [TRecordType.n] at h
  rw [vcall_go T (g := v159) rfl rfl rfl _ _ rfl]
  simp (maxSteps := 9999999) (disch := omega) only [vx, px, ty, ↓reduceIte, Bool.false_eq_true, reduceCtorEq, Nat.reduceAdd, Nat.reduceSub, Nat.reduceLeDiff, Nat.reduceEqDiff, Nat.reduceLT, Nat.reduceMul, List.reduceReplicate, and_true, true_and, and_false, false_and, and_self, or_true, true_or, or_false, false_or, not_true_eq_false, not_false_eq_true, ne_eq, v159, v159_b, c_eqStringS]
theorem l_eqRecordTypeS {R : Type} (e : En R) (sto : List (List D)) (k : List Fr) : ∀ (rest pre : List TRecordType) (i : Int), i = pre.length → pre.length + rest.length ≤ 1048576 → lsum TRecordType.n rest ≤ 1048576 →
    go T e v78_m1 (.lp v78_l1 :: .bl 0 :: .sq (.clr [4,5,6,7,8,9,10,11,12,13,14,15,16,17,18,19,20,21,22,23,24,25,26]) :: k) ⟨[.d (.sl false 2 (pre.map (TRecordType.e false) ++ rest.map (TRecordType.e false))), .d (.sl false 2 (pre.map (TRecordType.e false) ++ rest.map (TRecordType.e false))), Z, Z, Z, .d (.int .i64 i), Z, Z, Z, Z, Z, Z, Z, Z, Z, Z, Z, Z, Z, Z, Z, Z, Z, Z, Z, Z, Z], sto⟩ = bk T e k ⟨[.d (.sl false 2 (pre.map (TRecordType.e false) ++ rest.map (TRecordType.e false))), .d (.sl false 2 (pre.map (TRecordType.e false) ++ rest.map (TRecordType.e false))), Z, Z, Z, Z, Z, Z, Z, Z, Z, Z, Z, Z, Z, Z, Z, Z, Z, Z, Z, Z, Z, Z, Z, Z, Z], sto⟩ := by
  intro rest
  induction rest with
  | nil =>
    intro pre i hi h1 h2
    have ht : i.toNat = pre.length := by omega
    unfold v78_m1
    simp (maxSteps := 9999999) (disch := omega) only [vx, px, ty, ↓reduceIte, Bool.false_eq_true, reduceCtorEq, Nat.reduceAdd, Nat.reduceSub, Nat.reduceLeDiff, Nat.reduceEqDiff, Nat.reduceLT, Nat.reduceMul, List.reduceReplicate, and_true, true_and, and_false, false_and, and_self, or_true, true_or, or_false, false_or, not_true_eq_false, not_false_eq_true, ne_eq, w78_1]
  | cons x rest ih =>
    intro pre i hi h1 h2
    have ht : i.toNat = pre.length := by omega
    rw [lsum_cons] at h2
    rw [List.length_cons] at h1
    unfold v78_m1
    simp (maxSteps := 9999999) (disch := omega) only [vx, px, ty, ↓reduceIte, Bool.false_eq_true, reduceCtorEq, Nat.reduceAdd, Nat.reduceSub, Nat.reduceLeDiff, Nat.reduceEqDiff, Nat.reduceLT, Nat.reduceMul, List.reduceReplicate, and_true, true_and, and_false, false_and, and_self, or_true, true_or, or_false, false_or, not_true_eq_false, not_false_eq_true, ne_eq, vxd, Nat.reduceBNe, w78_1, ht, List.map_cons, ifT, c_eqRecordType]
    have h := ih (pre ++ [x]) (i + 1) (by simp; omega) (by simp; omega) (by omega)
    simp only [map_snoc] at h
    exact h
theorem c_eqRecordTypeS (xs : List TRecordType) (sto : List (List D)) (h : xs.length ≤ 1048576) (h2 : lsum TRecordType.n xs ≤ 1048576) : vcall T 78 [.sl false 2 (xs.map (TRecordType.e false)), .sl false 2 (xs.map (TRecordType.e false))] sto = some (.bool true, [], sto) := by
  rw [vcall_go T (g := v78) rfl rfl rfl _ _ rfl]
  simp (maxSteps := 9999999) (disch := omega) only [vx, px, ty, ↓reduceIte, Bool.false_eq_true, reduceCtorEq, Nat.reduceAdd, Nat.reduceSub, Nat.reduceLeDiff, Nat.reduceEqDiff, Nat.reduceLT, Nat.reduceMul, List.reduceReplicate, and_true, true_and, and_false, false_and, and_self, or_true, true_or, or_false, false_or, not_true_eq_false, not_false_eq_true, ne_eq, v78, v78_b, w78_1]
  have hl := fun k => l_eqRecordTypeS (enF [.tmp 4] []) sto k xs [] 0 rfl (by simp; omega) h2
  simp only [List.map_nil, List.nil_append] at hl
  rw [hl]
  simp (maxSteps := 9999999) (disch := omega) only [vx, px, ty, ↓reduceIte, Bool.false_eq_true, reduceCtorEq, Nat.reduceAdd, Nat.reduceSub, Nat.reduceLeDiff, Nat.reduceEqDiff, Nat.reduceLT, Nat.reduceMul, List.reduceReplicate, and_true, true_and, and_false, false_and, and_self, or_true, true_or, or_false, false_or, not_true_eq_false, not_false_eq_true, ne_eq]
theorem c_eqScope (x : TScope) (sto : List (List D)) (h : TScope.n x ≤ 1048576) : vcall T 18 [D.agg [D.sl false 5 (List.map (TBinding.e false) x.Vars), D.sl false 4 (List.map (TFunction.e false) x.Functions), D.sl false 2 (List.map (TRecordType.e false) x.Types)], D.agg [D.sl false 5 (List.map (TBinding.e false) x.Vars), D.sl false 4 (List.map (TFunction.e false) x.Functions), D.sl false 2 (List.map (TRecordType.e false) x.Types)]] sto = some (.bool true, [], sto) := by
  simp only [TScope.n] at h
  rw [vcall_go T (g := v18) rfl rfl rfl _ _ rfl]
  simp (maxSteps := 9999999) (disch := omega) only [vx, px, ty, ↓reduceIte, Bool.false_eq_true, reduceCtorEq, Nat.reduceAdd, Nat.reduceSub, Nat.reduceLeDiff, Nat.reduceEqDiff, Nat.reduceLT, Nat.reduceMul, List.reduceReplicate, and_true, true_and, and_false, false_and, and_self, or_true, true_or, or_false, false_or, not_true_eq_false, not_false_eq_true, ne_eq, v18, v18_b, c_eqBindingS, c_eqFunctionS, c_eqRecordTypeS]
theorem c_eqObject (x : TObject) (sto : List (List D)) (h : TObject.n x ≤ 1048576) : vcall T 174 [D.agg [D.int .i64 x.Id, D.int .i64 x.Kind, D.str x.Name, D.int .i64 x.Low, D.sl false 4 (List.map (TValue.e false) x.Keys), D.sl false 4 (List.map (TValue.e false) x.Vals), D.int .i64 x.Default.Kind, D.int .i64 x.Default.Num, D.str x.Default.Text, D.int .i64 x.Default.Ref], D.agg [D.int .i64 x.Id, D.int .i64 x.Kind, D.str x.Name, D.int .i64 x.Low, D.sl false 4 (List.map (TValue.e false) x.Keys), D.sl false 4 (List.map (TValue.e false) x.Vals), D.int .i64 x.Default.Kind, D.int .i64 x.Default.Num, D.str x.Default.Text, D.int .i64 x.Default.Ref]] sto = some (.bool true, [], sto) := by
  simp only [TObject.n] at h
  rw [vcall_go T (g := v174) rfl rfl rfl _ _ rfl]
  simp (maxSteps := 9999999) (disch := omega) only [vx, px, ty, ↓reduceIte, Bool.false_eq_true, reduceCtorEq, Nat.reduceAdd, Nat.reduceSub, Nat.reduceLeDiff, Nat.reduceEqDiff, Nat.reduceLT, Nat.reduceMul, List.reduceReplicate, and_true, true_and, and_false, false_and, and_self, or_true, true_or, or_false, false_or, not_true_eq_false, not_false_eq_true, ne_eq, v174, v174_b, c_eqValue, c_eqValueS]
theorem l_eqObjectS {R : Type} (e : En R) (sto : List (List D)) (k : List Fr) : ∀ (rest pre : List TObject) (i : Int), i = pre.length → pre.length + rest.length ≤ 1048576 → lsum TObject.n rest ≤ 1048576 →
    go T e v105_m1 (.lp v105_l1 :: .bl 0 :: .sq (.clr [4,5,6,7,8,9,10,11,12,13,14,15,16,17,18,19,20,21,22,23,24,25,26]) :: k) ⟨[.d (.sl false 10 (pre.map (TObject.e false) ++ rest.map (TObject.e false))), .d (.sl false 10 (pre.map (TObject.e false) ++ rest.map (TObject.e false))), Z, Z, Z, .d (.int .i64 i), Z, Z, Z, Z, Z, Z, Z, Z, Z, Z, Z, Z, Z, Z, Z, Z, Z, Z, Z, Z, Z], sto⟩ = bk T e k ⟨[.d (.sl false 10 (pre.map (TObject.e false) ++ rest.map (TObject.e false))), .d (.sl false 10 (pre.map (TObject.e false) ++ rest.map (TObject.e false))), Z, Z, Z, Z, Z, Z, Z, Z, Z, Z, Z, Z, Z, Z, Z, Z, Z, Z, Z, Z, Z, Z, Z, Z, Z], sto⟩ := by
  intro rest
  induction rest with
  | nil =>
    intro pre i hi h1 h2
    have ht : i.toNat = pre.length := by omega
    unfold v105_m1
    simp (maxSteps := 9999999) (disch := omega) only [vx, px, ty, ↓reduceIte, Bool.false_eq_true, reduceCtorEq, Nat.reduceAdd, Nat.reduceSub, Nat.reduceLeDiff, Nat.reduceEqDiff, Nat.reduceLT, Nat.reduceMul, List.reduceReplicate, and_true, true_and, and_false, false_and, and_self, or_true, true_or, or_false, false_or, not_true_eq_false, not_false_eq_true, ne_eq, w105_1]
  | cons x rest ih =>
    intro pre i hi h1 h2
    have ht : i.toNat = pre.length := by omega
    rw [lsum_cons] at h2
    rw [List.length_cons] at h1
    unfold v105_m1
    simp (maxSteps := 9999999) (disch := omega) only [vx, px, ty, ↓reduceIte, Bool.false_eq_true, reduceCtorEq, Nat.reduceAdd, Nat.reduceSub, Nat.reduceLeDiff, Nat.reduceEqDiff, Nat.reduceLT, Nat.reduceMul, List.reduceReplicate, and_true, true_and, and_false, false_and, and_self, or_true, true_or, or_false, false_or, not_true_eq_false, not_false_eq_true, ne_eq, vxd, Nat.reduceBNe, w105_1, ht, List.map_cons, ifT, c_eqObject]
    have h := ih (pre ++ [x]) (i + 1) (by simp; omega) (by simp; omega) (by omega)
    simp only [map_snoc] at h
    exact h
theorem c_eqObjectS (xs : List TObject) (sto : List (List D)) (h : xs.length ≤ 1048576) (h2 : lsum TObject.n xs ≤ 1048576) : vcall T 105 [.sl false 10 (xs.map (TObject.e false)), .sl false 10 (xs.map (TObject.e false))] sto = some (.bool true, [], sto) := by
  rw [vcall_go T (g := v105) rfl rfl rfl _ _ rfl]
  simp (maxSteps := 9999999) (disch := omega) only [vx, px, ty, ↓reduceIte, Bool.false_eq_true, reduceCtorEq, Nat.reduceAdd, Nat.reduceSub, Nat.reduceLeDiff, Nat.reduceEqDiff, Nat.reduceLT, Nat.reduceMul, List.reduceReplicate, and_true, true_and, and_false, false_and, and_self, or_true, true_or, or_false, false_or, not_true_eq_false, not_false_eq_true, ne_eq, v105, v105_b, w105_1]
  have hl := fun k => l_eqObjectS (enF [.tmp 4] []) sto k xs [] 0 rfl (by simp; omega) h2
  simp only [List.map_nil, List.nil_append] at hl
  rw [hl]
  simp (maxSteps := 9999999) (disch := omega) only [vx, px, ty, ↓reduceIte, Bool.false_eq_true, reduceCtorEq, Nat.reduceAdd, Nat.reduceSub, Nat.reduceLeDiff, Nat.reduceEqDiff, Nat.reduceLT, Nat.reduceMul, List.reduceReplicate, and_true, true_and, and_false, false_and, and_self, or_true, true_or, or_false, false_or, not_true_eq_false, not_false_eq_true, ne_eq]
theorem c_eqHeap (x : THeap) (sto : List (List D)) (h : THeap.n x ≤ 1048576) : vcall T 40 [D.agg [D.int .i64 x.Next, D.sl false 10 (List.map (TObject.e false) x.Objects)], D.agg [D.int .i64 x.Next, D.sl false 10 (List.map (TObject.e false) x.Objects)]] sto = some (.bool true, [], sto) := by
  simp only [THeap.n] at h
  rw [vcall_go T (g := v40) rfl rfl rfl _ _ rfl]
  simp (maxSteps := 9999999) (disch := omega) only [vx, px, ty, ↓reduceIte, Bool.false_eq_true, reduceCtorEq, Nat.reduceAdd, Nat.reduceSub, Nat.reduceLeDiff, Nat.reduceEqDiff, Nat.reduceLT, Nat.reduceMul, List.reduceReplicate, and_true, true_and, and_false, false_and, and_self, or_true, true_or, or_false, false_or, not_true_eq_false, not_false_eq_true, ne_eq, v40, v40_b, c_eqObjectS]
theorem c_eqFile (x : TFile) (sto : List (List D)) (h : TFile.n x ≤ 1048576) : vcall T 262 [D.agg [D.str x.Name, D.sl false 1 (List.map D.str x.Lines), D.int .i64 x.Mode, D.int .i64 x.At], D.agg [D.str x.Name, D.sl false 1 (List.map D.str x.Lines), D.int .i64 x.Mode, D.int .i64 x.At]] sto = some (.bool true, [], sto) := by
  simp only [TFile.n] at h
  rw [vcall_go T (g := v262) rfl rfl rfl _ _ rfl]
  simp (maxSteps := 9999999) (disch := omega) only [vx, px, ty, ↓reduceIte, Bool.false_eq_true, reduceCtorEq, Nat.reduceAdd, Nat.reduceSub, Nat.reduceLeDiff, Nat.reduceEqDiff, Nat.reduceLT, Nat.reduceMul, List.reduceReplicate, and_true, true_and, and_false, false_and, and_self, or_true, true_or, or_false, false_or, not_true_eq_false, not_false_eq_true, ne_eq, v262, v262_b, c_eqStringS]
theorem l_eqFileS {R : Type} (e : En R) (sto : List (List D)) (k : List Fr) : ∀ (rest pre : List TFile) (i : Int), i = pre.length → pre.length + rest.length ≤ 1048576 → lsum TFile.n rest ≤ 1048576 →
    go T e v232_m1 (.lp v232_l1 :: .bl 0 :: .sq (.clr [4,5,6,7,8,9,10,11,12,13,14,15,16,17,18,19,20,21,22,23,24,25,26]) :: k) ⟨[.d (.sl false 4 (pre.map (TFile.e false) ++ rest.map (TFile.e false))), .d (.sl false 4 (pre.map (TFile.e false) ++ rest.map (TFile.e false))), Z, Z, Z, .d (.int .i64 i), Z, Z, Z, Z, Z, Z, Z, Z, Z, Z, Z, Z, Z, Z, Z, Z, Z, Z, Z, Z, Z], sto⟩ = bk T e k ⟨[.d (.sl false 4 (pre.map (TFile.e false) ++ rest.map (TFile.e false))), .d (.sl false 4 (pre.map (TFile.e false) ++ rest.map (TFile.e false))), Z, Z, Z, Z, Z, Z, Z, Z, Z, Z, Z, Z, Z, Z, Z, Z, Z, Z, Z, Z, Z, Z, Z, Z, Z], sto⟩ := by
  intro rest
  induction rest with
  | nil =>
    intro pre i hi h1 h2
    have ht : i.toNat = pre.length := by omega
    unfold v232_m1
    simp (maxSteps := 9999999) (disch := omega) only [vx, px, ty, ↓reduceIte, Bool.false_eq_true, reduceCtorEq, Nat.reduceAdd, Nat.reduceSub, Nat.reduceLeDiff, Nat.reduceEqDiff, Nat.reduceLT, Nat.reduceMul, List.reduceReplicate, and_true, true_and, and_false, false_and, and_self, or_true, true_or, or_false, false_or, not_true_eq_false, not_false_eq_true, ne_eq, w232_1]
  | cons x rest ih =>
    intro pre i hi h1 h2
    have ht : i.toNat = pre.length := by omega
    rw [lsum_cons] at h2
    rw [List.length_cons] at h1
    unfold v232_m1
    simp (maxSteps := 9999999) (disch := omega) only [vx, px, ty, ↓reduceIte, Bool.false_eq_true, reduceCtorEq, Nat.reduceAdd, Nat.reduceSub, Nat.reduceLeDiff, Nat.reduceEqDiff, Nat.reduceLT, Nat.reduceMul, List.reduceReplicate, and_true, true_and, and_false, false_and, and_self, or_true, true_or, or_false, false_or, not_true_eq_false, not_false_eq_true, ne_eq, vxd, Nat.reduceBNe, w232_1, ht, List.map_cons, ifT, c_eqFile]
    have h := ih (pre ++ [x]) (i + 1) (by simp; omega) (by simp; omega) (by omega)
    simp only [map_snoc] at h
    exact h
theorem c_eqFileS (xs : List TFile) (sto : List (List D)) (h : xs.length ≤ 1048576) (h2 : lsum TFile.n xs ≤ 1048576) : vcall T 232 [.sl false 4 (xs.map (TFile.e false)), .sl false 4 (xs.map (TFile.e false))] sto = some (.bool true, [], sto) := by
  rw [vcall_go T (g := v232) rfl rfl rfl _ _ rfl]
  simp (maxSteps := 9999999) (disch := omega) only [vx, px, ty, ↓reduceIte, Bool.false_eq_true, reduceCtorEq, Nat.reduceAdd, Nat.reduceSub, Nat.reduceLeDiff, Nat.reduceEqDiff, Nat.reduceLT, Nat.reduceMul, List.reduceReplicate, and_true, true_and, and_false, false_and, and_self, or_true, true_or, or_false, false_or, not_true_eq_false, not_false_eq_true, ne_eq, v232, v232_b, w232_1]
  have hl := fun k => l_eqFileS (enF [.tmp 4] []) sto k xs [] 0 rfl (by simp; omega) h2
  simp only [List.map_nil, List.nil_append] at hl
  rw [hl]
  simp (maxSteps := 9999999) (disch := omega) only [vx, px, ty, ↓reduceIte, Bool.false_eq_true, reduceCtorEq, Nat.reduceAdd, Nat.reduceSub, Nat.reduceLeDiff, Nat.reduceEqDiff, Nat.reduceLT, Nat.reduceMul, List.reduceReplicate, and_true, true_and, and_false, false_and, and_self, or_true, true_or, or_false, false_or, not_true_eq_false, not_false_eq_true, ne_eq]
theorem c_eqConsole (x : TConsole) (sto : List (List D)) (h : TConsole.n x ≤ 1048576) : vcall T 191 [D.agg [D.sl false 1 (List.map D.str x.Input), D.int .i64 x.At, D.sl false 1 (List.map D.str x.Output), D.sl false 4 (List.map (TFile.e false) x.Files), D.sl false 1 (List.map D.str x.Trace)], D.agg [D.sl false 1 (List.map D.str x.Input), D.int .i64 x.At, D.sl false 1 (List.map D.str x.Output), D.sl false 4 (List.map (TFile.e false) x.Files), D.sl false 1 (List.map D.str x.Trace)]] sto = some (.bool true, [], sto) := by
  simp only [TConsole.n] at h
  rw [vcall_go T (g := v191) rfl rfl rfl _ _ rfl]
  simp (maxSteps := 9999999) (disch := omega) only [vx, px, ty, ↓reduceIte, Bool.false_eq_true, reduceCtorEq, Nat.reduceAdd, Nat.reduceSub, Nat.reduceLeDiff, Nat.reduceEqDiff, Nat.reduceLT, Nat.reduceMul, List.reduceReplicate, and_true, true_and, and_false, false_and, and_self, or_true, true_or, or_false, false_or, not_true_eq_false, not_false_eq_true, ne_eq, v191, v191_b, c_eqFileS, c_eqStringS]
theorem c_eqMemory (x : TMemory) (sto : List (List D)) (h : TMemory.n x ≤ 1048576) : vcall T 122 [D.agg [D.int .i64 x.Heap.Next, D.sl false 10 (List.map (TObject.e false) x.Heap.Objects), D.sl false 5 (List.map (TBinding.e false) x.Scope.Vars), D.sl false 4 (List.map (TFunction.e false) x.Scope.Functions), D.sl false 2 (List.map (TRecordType.e false) x.Scope.Types), D.sl false 1 (List.map D.str x.Console.Input), D.int .i64 x.Console.At, D.sl false 1 (List.map D.str x.Console.Output), D.sl false 4 (List.map (TFile.e false) x.Console.Files), D.sl false 1 (List.map D.str x.Console.Trace)], D.agg [D.int .i64 x.Heap.Next, D.sl false 10 (List.map (TObject.e false) x.Heap.Objects), D.sl false 5 (List.map (TBinding.e false) x.Scope.Vars), D.sl false 4 (List.map (TFunction.e false) x.Scope.Functions), D.sl false 2 (List.map (TRecordType.e false) x.Scope.Types), D.sl false 1 (List.map D.str x.Console.Input), D.int .i64 x.Console.At, D.sl false 1 (List.map D.str x.Console.Output), D.sl false 4 (List.map (TFile.e false) x.Console.Files), D.sl false 1 (List.map D.str x.Console.Trace)]] sto = some (.bool true, [], sto) := by
  simp only [TMemory.n] at h
  rw [vcall_go T (g := v122) rfl rfl rfl _ _ rfl]
  simp (maxSteps := 9999999) (disch := omega) only [vx, px, ty, ↓reduceIte, Bool.false_eq_true, reduceCtorEq, Nat.reduceAdd, Nat.reduceSub, Nat.reduceLeDiff, Nat.reduceEqDiff, Nat.reduceLT, Nat.reduceMul, List.reduceReplicate, and_true, true_and, and_false, false_and, and_self, or_true, true_or, or_false, false_or, not_true_eq_false, not_false_eq_true, ne_eq, v122, v122_b, c_eqConsole, c_eqHeap, c_eqScope]
theorem c_eqOutcome (x : TOutcome) (sto : List (List D)) (h : TOutcome.n x ≤ 1048576) : vcall T 56 [D.agg [D.int .i64 x.Memory.Heap.Next, D.sl false 10 (List.map (TObject.e false) x.Memory.Heap.Objects), D.sl false 5 (List.map (TBinding.e false) x.Memory.Scope.Vars), D.sl false 4 (List.map (TFunction.e false) x.Memory.Scope.Functions), D.sl false 2 (List.map (TRecordType.e false) x.Memory.Scope.Types), D.sl false 1 (List.map D.str x.Memory.Console.Input), D.int .i64 x.Memory.Console.At, D.sl false 1 (List.map D.str x.Memory.Console.Output), D.sl false 4 (List.map (TFile.e false) x.Memory.Console.Files), D.sl false 1 (List.map D.str x.Memory.Console.Trace), D.int .i64 x.At, D.int .i64 x.Steps, D.int .i64 x.Code], D.agg [D.int .i64 x.Memory.Heap.Next, D.sl false 10 (List.map (TObject.e false) x.Memory.Heap.Objects), D.sl false 5 (List.map (TBinding.e false) x.Memory.Scope.Vars), D.sl false 4 (List.map (TFunction.e false) x.Memory.Scope.Functions), D.sl false 2 (List.map (TRecordType.e false) x.Memory.Scope.Types), D.sl false 1 (List.map D.str x.Memory.Console.Input), D.int .i64 x.Memory.Console.At, D.sl false 1 (List.map D.str x.Memory.Console.Output), D.sl false 4 (List.map (TFile.e false) x.Memory.Console.Files), D.sl false 1 (List.map D.str x.Memory.Console.Trace), D.int .i64 x.At, D.int .i64 x.Steps, D.int .i64 x.Code]] sto = some (.bool true, [], sto) := by
  simp only [TOutcome.n] at h
  rw [vcall_go T (g := v56) rfl rfl rfl _ _ rfl]
  simp (maxSteps := 9999999) (disch := omega) only [vx, px, ty, ↓reduceIte, Bool.false_eq_true, reduceCtorEq, Nat.reduceAdd, Nat.reduceSub, Nat.reduceLeDiff, Nat.reduceEqDiff, Nat.reduceLT, Nat.reduceMul, List.reduceReplicate, and_true, true_and, and_false, false_and, and_self, or_true, true_or, or_false, false_or, not_true_eq_false, not_false_eq_true, ne_eq, v56, v56_b, c_eqMemory]
theorem c_eqCallFrame (x : TCallFrame) (sto : List (List D)) (h : TCallFrame.n x ≤ 1048576) : vcall T 192 [D.agg [D.str x.Name, D.sl false 5 (List.map (TBinding.e false) x.Saved), D.int .i64 x.PC, D.int .i64 x.Base, D.int .i64 x.At], D.agg [D.str x.Name, D.sl false 5 (List.map (TBinding.e false) x.Saved), D.int .i64 x.PC, D.int .i64 x.Base, D.int .i64 x.At]] sto = some (.bool true, [], sto) := by
  simp only [TCallFrame.n] at h
  rw [vcall_go T (g := v192) rfl rfl rfl _ _ rfl]
  simp (maxSteps := 9999999) (disch := omega) only [vx, px, ty, ↓reduceIte, Bool.false_eq_true, reduceCtorEq, Nat.reduceAdd, Nat.reduceSub, Nat.reduceLeDiff, Nat.reduceEqDiff, Nat.reduceLT, Nat.reduceMul, List.reduceReplicate, and_true, true_and, and_false, false_and, and_self, or_true, true_or, or_false, false_or, not_true_eq_false, not_false_eq_true, ne_eq, v192, v192_b, c_eqBindingS]
theorem l_eqCallFrameS {R : Type} (e : En R) (sto : List (List D)) (k : List Fr) : ∀ (rest pre : List TCallFrame) (i : Int), i = pre.length → pre.length + rest.length ≤ 1048576 → lsum TCallFrame.n rest ≤ 1048576 →
    go T e v123_m1 (.lp v123_l1 :: .bl 0 :: .sq (.clr [4,5,6,7,8,9,10,11,12,13,14,15,16,17,18,19,20,21,22,23,24,25,26]) :: k) ⟨[.d (.sl false 5 (pre.map (TCallFrame.e false) ++ rest.map (TCallFrame.e false))), .d (.sl false 5 (pre.map (TCallFrame.e false) ++ rest.map (TCallFrame.e false))), Z, Z, Z, .d (.int .i64 i), Z, Z, Z, Z, Z, Z, Z, Z, Z, Z, Z, Z, Z, Z, Z, Z, Z, Z, Z, Z, Z], sto⟩ = bk T e k ⟨[.d (.sl false 5 (pre.map (TCallFrame.e false) ++ rest.map (TCallFrame.e false))), .d (.sl false 5 (pre.map (TCallFrame.e false) ++ rest.map (TCallFrame.e false))), Z, Z, Z, Z, Z, Z, Z, Z, Z, Z, Z, Z, Z, Z, Z, Z, Z, Z, Z, Z, Z, Z, Z, Z, Z], sto⟩ := by
  intro rest
  induction rest with
  | nil =>
    intro pre i hi h1 h2
    have ht : i.toNat = pre.length := by omega
    unfold v123_m1
    simp (maxSteps := 9999999) (disch := omega) only [vx, px, ty, ↓reduceIte, Bool.false_eq_true, reduceCtorEq, Nat.reduceAdd, Nat.reduceSub, Nat.reduceLeDiff, Nat.reduceEqDiff, Nat.reduceLT, Nat.reduceMul, List.reduceReplicate, and_true, true_and, and_false, false_and, and_self, or_true, true_or, or_false, false_or, not_true_eq_false, not_false_eq_true, ne_eq, w123_1]
  | cons x rest ih =>
    intro pre i hi h1 h2
    have ht : i.toNat = pre.length := by omega
    rw [lsum_cons] at h2
    rw [List.length_cons] at h1
    unfold v123_m1
    simp (maxSteps := 9999999) (disch := omega) only [vx, px, ty, ↓reduceIte, Bool.false_eq_true, reduceCtorEq, Nat.reduceAdd, Nat.reduceSub, Nat.reduceLeDiff, Nat.reduceEqDiff, Nat.reduceLT, Nat.reduceMul, List.reduceReplicate, and_true, true_and, and_false, false_and, and_self, or_true, true_or, or_false, false_or, not_true_eq_false, not_false_eq_true, ne_eq, vxd, Nat.reduceBNe, w123_1, ht, List.map_cons, ifT, c_eqCallFrame]
    have h := ih (pre ++ [x]) (i + 1) (by simp; omega) (by simp; omega) (by omega)
    simp only [map_snoc] at h
    exact h
theorem c_eqCallFrameS (xs : List TCallFrame) (sto : List (List D)) (h : xs.length ≤ 1048576) (h2 : lsum TCallFrame.n xs ≤ 1048576) : vcall T 123 [.sl false 5 (xs.map (TCallFrame.e false)), .sl false 5 (xs.map (TCallFrame.e false))] sto = some (.bool true, [], sto) := by
  rw [vcall_go T (g := v123) rfl rfl rfl _ _ rfl]
  simp (maxSteps := 9999999) (disch := omega) only [vx, px, ty, ↓reduceIte, Bool.false_eq_true, reduceCtorEq, Nat.reduceAdd, Nat.reduceSub, Nat.reduceLeDiff, Nat.reduceEqDiff, Nat.reduceLT, Nat.reduceMul, List.reduceReplicate, and_true, true_and, and_false, false_and, and_self, or_true, true_or, or_false, false_or, not_true_eq_false, not_false_eq_true, ne_eq, v123, v123_b, w123_1]
  have hl := fun k => l_eqCallFrameS (enF [.tmp 4] []) sto k xs [] 0 rfl (by simp; omega) h2
  simp only [List.map_nil, List.nil_append] at hl
  rw [hl]
  simp (maxSteps := 9999999) (disch := omega) only [vx, px, ty, ↓reduceIte, Bool.false_eq_true, reduceCtorEq, Nat.reduceAdd, Nat.reduceSub, Nat.reduceLeDiff, Nat.reduceEqDiff, Nat.reduceLT, Nat.reduceMul, List.reduceReplicate, and_true, true_and, and_false, false_and, and_self, or_true, true_or, or_false, false_or, not_true_eq_false, not_false_eq_true, ne_eq]
theorem c_eqMachine (x : TMachine) (sto : List (List D)) (h : TMachine.n x ≤ 1048576) : vcall T 57 [D.agg [D.int .i64 x.Status, D.int .i64 x.Code, D.int .i64 x.Memory.Heap.Next, D.sl false 10 (List.map (TObject.e false) x.Memory.Heap.Objects), D.sl false 5 (List.map (TBinding.e false) x.Memory.Scope.Vars), D.sl false 4 (List.map (TFunction.e false) x.Memory.Scope.Functions), D.sl false 2 (List.map (TRecordType.e false) x.Memory.Scope.Types), D.sl false 1 (List.map D.str x.Memory.Console.Input), D.int .i64 x.Memory.Console.At, D.sl false 1 (List.map D.str x.Memory.Console.Output), D.sl false 4 (List.map (TFile.e false) x.Memory.Console.Files), D.sl false 1 (List.map D.str x.Memory.Console.Trace), D.sl false 4 (List.map (TValue.e false) x.Stack), D.sl false 5 (List.map (TCallFrame.e false) x.Frames), D.int .i64 x.PC, D.int .i64 x.Base, D.int .i64 x.At, D.int .i64 x.Steps, D.int .i64 x.Fuel], D.agg [D.int .i64 x.Status, D.int .i64 x.Code, D.int .i64 x.Memory.Heap.Next, D.sl false 10 (List.map (TObject.e false) x.Memory.Heap.Objects), D.sl false 5 (List.map (TBinding.e false) x.Memory.Scope.Vars), D.sl false 4 (List.map (TFunction.e false) x.Memory.Scope.Functions), D.sl false 2 (List.map (TRecordType.e false) x.Memory.Scope.Types), D.sl false 1 (List.map D.str x.Memory.Console.Input), D.int .i64 x.Memory.Console.At, D.sl false 1 (List.map D.str x.Memory.Console.Output), D.sl false 4 (List.map (TFile.e false) x.Memory.Console.Files), D.sl false 1 (List.map D.str x.Memory.Console.Trace), D.sl false 4 (List.map (TValue.e false) x.Stack), D.sl false 5 (List.map (TCallFrame.e false) x.Frames), D.int .i64 x.PC, D.int .i64 x.Base, D.int .i64 x.At, D.int .i64 x.Steps, D.int .i64 x.Fuel]] sto = some (.bool true, [], sto) := by
  simp only [TMachine.n] at h
  rw [vcall_go T (g := v57) rfl rfl rfl _ _ rfl]
  simp (maxSteps := 9999999) (disch := omega) only [vx, px, ty, ↓reduceIte, Bool.false_eq_true, reduceCtorEq, Nat.reduceAdd, Nat.reduceSub, Nat.reduceLeDiff, Nat.reduceEqDiff, Nat.reduceLT, Nat.reduceMul, List.reduceReplicate, and_true, true_and, and_false, false_and, and_self, or_true, true_or, or_false, false_or, not_true_eq_false, not_false_eq_true, ne_eq, v57, v57_b, c_eqCallFrameS, c_eqMemory, c_eqValueS]
end Go.Vx.OcZ
