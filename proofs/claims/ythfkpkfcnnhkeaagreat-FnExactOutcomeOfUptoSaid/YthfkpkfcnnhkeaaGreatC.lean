/-
  The laws' own functions: sizes, copies, comparisons, marks.
-/

import Derived.Test.YthfkpkfcnnhkeaaGreatTypes
import Derived.Test.YthfkpkfcnnhkeaaGreatCode
set_option linter.unusedVariables false
set_option linter.unusedSimpArgs false
namespace Go.Vx.OcZ
set_option linter.unusedVariables false
set_option linter.unusedSimpArgs false
set_option maxRecDepth 4000
set_option maxHeartbeats 2000000
theorem c_CloneValue (xs : List TValue) (sto : List (List D)) (h : xs.length ≤ 1048576) : vcall T 101 [.sl false 4 (xs.map (TValue.e false))] sto = some (.sl true 4 (xs.map (TValue.e false)), [], sto) := by
  cases xs with
  | nil =>
    rw [vcall_go T (g := v101) rfl rfl rfl _ _ rfl]
    simp (maxSteps := 9999999) (disch := omega) only [vx, px, ty, ↓reduceIte, Bool.false_eq_true, reduceCtorEq, Nat.reduceAdd, Nat.reduceSub, Nat.reduceLeDiff, Nat.reduceEqDiff, Nat.reduceLT, Nat.reduceMul, List.reduceReplicate, and_true, true_and, and_false, false_and, and_self, or_true, true_or, or_false, false_or, not_true_eq_false, not_false_eq_true, ne_eq, v101, v101_b, most, ifT]
  | cons x xs =>
    rw [List.length_cons] at h
    rw [vcall_go T (g := v101) rfl rfl rfl _ _ rfl]
    simp (maxSteps := 9999999) (disch := omega) only [vx, px, ty, ↓reduceIte, Bool.false_eq_true, reduceCtorEq, Nat.reduceAdd, Nat.reduceSub, Nat.reduceLeDiff, Nat.reduceEqDiff, Nat.reduceLT, Nat.reduceMul, List.reduceReplicate, and_true, true_and, and_false, false_and, and_self, or_true, true_or, or_false, false_or, not_true_eq_false, not_false_eq_true, ne_eq, v101, v101_b, most, ifT]
theorem c_CloneBinding (xs : List TBinding) (sto : List (List D)) (h : xs.length ≤ 1048576) : vcall T 160 [.sl false 5 (xs.map (TBinding.e false))] sto = some (.sl true 5 (xs.map (TBinding.e false)), [], sto) := by
  cases xs with
  | nil =>
    rw [vcall_go T (g := v160) rfl rfl rfl _ _ rfl]
    simp (maxSteps := 9999999) (disch := omega) only [vx, px, ty, ↓reduceIte, Bool.false_eq_true, reduceCtorEq, Nat.reduceAdd, Nat.reduceSub, Nat.reduceLeDiff, Nat.reduceEqDiff, Nat.reduceLT, Nat.reduceMul, List.reduceReplicate, and_true, true_and, and_false, false_and, and_self, or_true, true_or, or_false, false_or, not_true_eq_false, not_false_eq_true, ne_eq, v160, v160_b, most, ifT]
  | cons x xs =>
    rw [List.length_cons] at h
    rw [vcall_go T (g := v160) rfl rfl rfl _ _ rfl]
    simp (maxSteps := 9999999) (disch := omega) only [vx, px, ty, ↓reduceIte, Bool.false_eq_true, reduceCtorEq, Nat.reduceAdd, Nat.reduceSub, Nat.reduceLeDiff, Nat.reduceEqDiff, Nat.reduceLT, Nat.reduceMul, List.reduceReplicate, and_true, true_and, and_false, false_and, and_self, or_true, true_or, or_false, false_or, not_true_eq_false, not_false_eq_true, ne_eq, v160, v160_b, most, ifT]
theorem c_CloneString (xs : List ByteArray) (sto : List (List D)) (h : xs.length ≤ 1048576) : vcall T 161 [.sl false 1 (xs.map D.str)] sto = some (.sl true 1 (xs.map D.str), [], sto) := by
  cases xs with
  | nil =>
    rw [vcall_go T (g := v161) rfl rfl rfl _ _ rfl]
    simp (maxSteps := 9999999) (disch := omega) only [vx, px, ty, ↓reduceIte, Bool.false_eq_true, reduceCtorEq, Nat.reduceAdd, Nat.reduceSub, Nat.reduceLeDiff, Nat.reduceEqDiff, Nat.reduceLT, Nat.reduceMul, List.reduceReplicate, and_true, true_and, and_false, false_and, and_self, or_true, true_or, or_false, false_or, not_true_eq_false, not_false_eq_true, ne_eq, v161, v161_b, most, ifT]
  | cons x xs =>
    rw [List.length_cons] at h
    rw [vcall_go T (g := v161) rfl rfl rfl _ _ rfl]
    simp (maxSteps := 9999999) (disch := omega) only [vx, px, ty, ↓reduceIte, Bool.false_eq_true, reduceCtorEq, Nat.reduceAdd, Nat.reduceSub, Nat.reduceLeDiff, Nat.reduceEqDiff, Nat.reduceLT, Nat.reduceMul, List.reduceReplicate, and_true, true_and, and_false, false_and, and_self, or_true, true_or, or_false, false_or, not_true_eq_false, not_false_eq_true, ne_eq, v161, v161_b, most, ifT]
theorem l_copiedFunctions {R : Type} (e : En R) (sto : List (List D)) (k : List Fr) (c1 c2 : List D) (v t : D) (len : Int) : ∀ (rest pre : List TFunction) (i : Int), i = pre.length → pre.length + rest.length ≤ 1048576 → lsum TFunction.n rest ≤ 1048576 → (pre.length : Int) + (rest.length : Int) = len →
    go T e v84_m1 (.lp v84_l1 :: .bl 0 :: .sq (.clr [0,5,8,9,10,11,12,13,14,15,16,17,18,19,20,21,22,23,24,25,26,27,28,29,30,31,32,33]) :: k) ⟨[Z, .box c1, .box c2, .box [v, .sl true 4 (pre.map (TFunction.e true)), t], Z, Z, Z, Z, Z, Z, Z, Z, .ptr ⟨.slot 1, [], 1⟩, .d (.sl false 4 (pre.map (TFunction.e false) ++ rest.map (TFunction.e false))), .d (.int .i64 len), .d (.int .i64 i), Z, Z, Z, Z, Z, Z, Z, Z, Z, Z, Z, Z, Z, Z, Z, Z, Z, Z, Z, Z, Z, Z, Z, Z, Z, Z, Z, Z, Z, Z, Z, Z, Z, Z, Z, Z, Z], sto⟩ = bk T e k ⟨[Z, .box c1, .box c2, .box [v, .sl true 4 (pre.map (TFunction.e true) ++ rest.map (TFunction.e true)), t], Z, Z, Z, Z, Z, Z, Z, Z, Z, Z, Z, Z, Z, Z, Z, Z, Z, Z, Z, Z, Z, Z, Z, Z, Z, Z, Z, Z, Z, Z, Z, Z, Z, Z, Z, Z, Z, Z, Z, Z, Z, Z, Z, Z, Z, Z, Z, Z, Z], sto⟩ := by
  intro rest
  induction rest with
  | nil =>
    intro pre i hi h1 h2 h3
    have ht : i.toNat = pre.length := by omega
    have hl0 : ([] : List TFunction).length = 0 := rfl
    unfold v84_m1
    simp (maxSteps := 9999999) (disch := omega) only [vx, px, ty, ↓reduceIte, Bool.false_eq_true, reduceCtorEq, Nat.reduceAdd, Nat.reduceSub, Nat.reduceLeDiff, Nat.reduceEqDiff, Nat.reduceLT, Nat.reduceMul, List.reduceReplicate, and_true, true_and, and_false, false_and, and_self, or_true, true_or, or_false, false_or, not_true_eq_false, not_false_eq_true, ne_eq, w84_1]
    try simp only [List.map_nil, List.append_nil]
  | cons x rest ih =>
    intro pre i hi h1 h2 h3
    have ht : i.toNat = pre.length := by omega
    simp only [lsum_cons] at h2
    have h2' := h2
    try simp only [lsum_cons, TFunction.n] at h2
    rw [List.length_cons] at h1; rw [List.length_cons] at h3
    have h := ih (pre ++ [x]) (i + 1) (by simp; omega) (by simp; omega) (by omega) (by simp; omega)
    simp only [map_snoc, List.map_append, List.map_cons, List.map_nil] at h
    simp only [List.append_assoc, List.cons_append, List.nil_append] at h
    unfold v84_m1
    simp (maxSteps := 9999999) (disch := omega) only [vx, px, ty, ↓reduceIte, Bool.false_eq_true, reduceCtorEq, Nat.reduceAdd, Nat.reduceSub, Nat.reduceLeDiff, Nat.reduceEqDiff, Nat.reduceLT, Nat.reduceMul, List.reduceReplicate, and_true, true_and, and_false, false_and, and_self, or_true, true_or, or_false, false_or, not_true_eq_false, not_false_eq_true, ne_eq, vxd, Nat.reduceBNe, w84_1, ht, ifT, most, List.map_cons, List.set_cons_zero, c_CloneString]
    exact h
theorem l_copiedTypes {R : Type} (e : En R) (sto : List (List D)) (k : List Fr) (c1 c2 : List D) (v t : D) (len : Int) : ∀ (rest pre : List TRecordType) (i : Int), i = pre.length → pre.length + rest.length ≤ 1048576 → lsum TRecordType.n rest ≤ 1048576 → (pre.length : Int) + (rest.length : Int) = len →
    go T e v84_m2 (.lp v84_l2 :: .bl 2 :: .sq (.clr [0,1,5,7,8,9,10,11,12,13,14,15,16,17,18,19,20,21,22,23,24,25,26,27,28,29,30,31,32,33,34,35,36,37,38,39,40,41,42,43,44,45,46,47,48,49,50,51]) :: k) ⟨[Z, .box c1, .box c2, .box [v, t, .sl true 2 (pre.map (TRecordType.e true))], Z, Z, Z, Z, Z, Z, Z, Z, Z, Z, Z, Z, Z, Z, Z, Z, Z, Z, Z, Z, Z, Z, Z, Z, Z, Z, Z, Z, Z, Z, .ptr ⟨.slot 1, [], 2⟩, .d (.sl false 2 (pre.map (TRecordType.e false) ++ rest.map (TRecordType.e false))), .d (.int .i64 len), .d (.int .i64 i), Z, Z, Z, Z, Z, Z, Z, Z, Z, Z, Z, Z, Z, Z, Z], sto⟩ = bk T e k ⟨[Z, Z, .box c2, .box [v, t, .sl true 2 (pre.map (TRecordType.e true) ++ rest.map (TRecordType.e true))], Z, Z, Z, Z, Z, Z, Z, Z, Z, Z, Z, Z, Z, Z, Z, Z, Z, Z, Z, Z, Z, Z, Z, Z, Z, Z, Z, Z, Z, Z, Z, Z, Z, Z, Z, Z, Z, Z, Z, Z, Z, Z, Z, Z, Z, Z, Z, Z, Z], sto⟩ := by
  intro rest
  induction rest with
  | nil =>
    intro pre i hi h1 h2 h3
    have ht : i.toNat = pre.length := by omega
    have hl0 : ([] : List TRecordType).length = 0 := rfl
    unfold v84_m2
    simp (maxSteps := 9999999) (disch := omega) only [vx, px, ty, ↓reduceIte, Bool.false_eq_true, reduceCtorEq, Nat.reduceAdd, Nat.reduceSub, Nat.reduceLeDiff, Nat.reduceEqDiff, Nat.reduceLT, Nat.reduceMul, List.reduceReplicate, and_true, true_and, and_false, false_and, and_self, or_true, true_or, or_false, false_or, not_true_eq_false, not_false_eq_true, ne_eq, w84_2]
    try simp only [List.map_nil, List.append_nil]
  | cons x rest ih =>
    intro pre i hi h1 h2 h3
    have ht : i.toNat = pre.length := by omega
    simp only [lsum_cons] at h2
    have h2' := h2
    try simp only [lsum_cons, TRecordType.n] at h2
    rw [List.length_cons] at h1; rw [List.length_cons] at h3
    have h := ih (pre ++ [x]) (i + 1) (by simp; omega) (by simp; omega) (by omega) (by simp; omega)
    simp only [map_snoc, List.map_append, List.map_cons, List.map_nil] at h
    simp only [List.append_assoc, List.cons_append, List.nil_append] at h
    unfold v84_m2
    simp (maxSteps := 9999999) (disch := omega) only [vx, px, ty, ↓reduceIte, Bool.false_eq_true, reduceCtorEq, Nat.reduceAdd, Nat.reduceSub, Nat.reduceLeDiff, Nat.reduceEqDiff, Nat.reduceLT, Nat.reduceMul, List.reduceReplicate, and_true, true_and, and_false, false_and, and_self, or_true, true_or, or_false, false_or, not_true_eq_false, not_false_eq_true, ne_eq, vxd, Nat.reduceBNe, w84_2, ht, ifT, most, List.map_cons, List.set_cons_zero, c_CloneString]
    exact h
theorem c_Scope_copied (x : TScope) (sto : List (List D)) (h : TScope.n x ≤ 1048576) : vcall T 84 [D.agg [D.sl false 5 (List.map (TBinding.e false) x.Vars), D.sl false 4 (List.map (TFunction.e false) x.Functions), D.sl false 2 (List.map (TRecordType.e false) x.Types)]] sto = some (D.agg [D.sl true 5 (List.map (TBinding.e false) x.Vars), D.sl true 4 (List.map (TFunction.e true) x.Functions), D.sl true 2 (List.map (TRecordType.e true) x.Types)], [], sto) := by
  simp only [TScope.n] at h
  rw [vcall_go T (g := v84) rfl rfl rfl _ _ rfl]
  simp (maxSteps := 9999999) (disch := omega) only [vx, px, ty, ↓reduceIte, Bool.false_eq_true, reduceCtorEq, Nat.reduceAdd, Nat.reduceSub, Nat.reduceLeDiff, Nat.reduceEqDiff, Nat.reduceLT, Nat.reduceMul, List.reduceReplicate, and_true, true_and, and_false, false_and, and_self, or_true, true_or, or_false, false_or, not_true_eq_false, not_false_eq_true, ne_eq, vxd, Nat.reduceBNe, most, ifT, v84, v84_b, w84_1, w84_2, c_CloneBinding]
  have h1 := fun k c1 c2 v t => l_copiedFunctions (enF [.cell 2 (.many 3)] []) sto k c1 c2 v t x.Functions.length x.Functions [] 0 rfl (by simp; omega) (by omega) (by simp)
  simp only [List.map_nil, List.nil_append] at h1
  rw [h1]
  simp (maxSteps := 9999999) (disch := omega) only [vx, px, ty, ↓reduceIte, Bool.false_eq_true, reduceCtorEq, Nat.reduceAdd, Nat.reduceSub, Nat.reduceLeDiff, Nat.reduceEqDiff, Nat.reduceLT, Nat.reduceMul, List.reduceReplicate, and_true, true_and, and_false, false_and, and_self, or_true, true_or, or_false, false_or, not_true_eq_false, not_false_eq_true, ne_eq, w84_1, w84_2, c_CloneBinding]
  have h2 := fun k c1 c2 v t => l_copiedTypes (enF [.cell 2 (.many 3)] []) sto k c1 c2 v t x.Types.length x.Types [] 0 rfl (by simp; omega) (by omega) (by simp)
  simp only [List.map_nil, List.nil_append] at h2
  rw [h2]
  simp (maxSteps := 9999999) (disch := omega) only [vx, px, ty, ↓reduceIte, Bool.false_eq_true, reduceCtorEq, Nat.reduceAdd, Nat.reduceSub, Nat.reduceLeDiff, Nat.reduceEqDiff, Nat.reduceLT, Nat.reduceMul, List.reduceReplicate, and_true, true_and, and_false, false_and, and_self, or_true, true_or, or_false, false_or, not_true_eq_false, not_false_eq_true, ne_eq, w84_1, w84_2, c_CloneBinding]
theorem c_Object_copied (x : TObject) (sto : List (List D)) (h : TObject.n x ≤ 1048576) : vcall T 225 [D.agg [D.int .i64 x.Id, D.int .i64 x.Kind, D.str x.Name, D.int .i64 x.Low, D.sl false 4 (List.map (TValue.e false) x.Keys), D.sl false 4 (List.map (TValue.e false) x.Vals), D.int .i64 x.Default.Kind, D.int .i64 x.Default.Num, D.str x.Default.Text, D.int .i64 x.Default.Ref]] sto = some (D.agg [D.int .i64 x.Id, D.int .i64 x.Kind, D.str x.Name, D.int .i64 x.Low, D.sl true 4 (List.map (TValue.e false) x.Keys), D.sl true 4 (List.map (TValue.e false) x.Vals), D.int .i64 x.Default.Kind, D.int .i64 x.Default.Num, D.str x.Default.Text, D.int .i64 x.Default.Ref], [], sto) := by
  simp only [TObject.n] at h
  rw [vcall_go T (g := v225) rfl rfl rfl _ _ rfl]
  simp (maxSteps := 9999999) (disch := omega) only [vx, px, ty, ↓reduceIte, Bool.false_eq_true, reduceCtorEq, Nat.reduceAdd, Nat.reduceSub, Nat.reduceLeDiff, Nat.reduceEqDiff, Nat.reduceLT, Nat.reduceMul, List.reduceReplicate, and_true, true_and, and_false, false_and, and_self, or_true, true_or, or_false, false_or, not_true_eq_false, not_false_eq_true, ne_eq, vxd, Nat.reduceBNe, v225, v225_b, c_CloneValue]
theorem l_copiedObjects {R : Type} (e : En R) (sto : List (List D)) (k : List Fr) (c1 c2 : List D) (v : D) (len : Int) : ∀ (rest pre : List TObject) (i : Int), i = pre.length → pre.length + rest.length ≤ 1048576 → lsum TObject.n rest ≤ 1048576 → (pre.length : Int) + (rest.length : Int) = len →
    go T e v224_m1 (.lp v224_l1 :: .bl 0 :: .sq (.clr [0,1,5,6,7,8,9,10,11,12,13,14,15,16,17,18,19,20,21,22,23]) :: k) ⟨[Z, .box c1, .box c2, .box [v, .sl true 10 (pre.map (TObject.e true))], Z, Z, Z, Z, Z, .ptr ⟨.slot 1, [], 1⟩, .d (.sl false 10 (pre.map (TObject.e false) ++ rest.map (TObject.e false))), .d (.int .i64 len), .d (.int .i64 i), Z, Z, Z, Z, Z, Z, Z, Z, Z, Z, Z, Z], sto⟩ = bk T e k ⟨[Z, Z, .box c2, .box [v, .sl true 10 (pre.map (TObject.e true) ++ rest.map (TObject.e true))], Z, Z, Z, Z, Z, Z, Z, Z, Z, Z, Z, Z, Z, Z, Z, Z, Z, Z, Z, Z, Z], sto⟩ := by
  intro rest
  induction rest with
  | nil =>
    intro pre i hi h1 h2 h3
    have ht : i.toNat = pre.length := by omega
    have hl0 : ([] : List TObject).length = 0 := rfl
    unfold v224_m1
    simp (maxSteps := 9999999) (disch := omega) only [vx, px, ty, ↓reduceIte, Bool.false_eq_true, reduceCtorEq, Nat.reduceAdd, Nat.reduceSub, Nat.reduceLeDiff, Nat.reduceEqDiff, Nat.reduceLT, Nat.reduceMul, List.reduceReplicate, and_true, true_and, and_false, false_and, and_self, or_true, true_or, or_false, false_or, not_true_eq_false, not_false_eq_true, ne_eq, w224_1]
    try simp only [List.map_nil, List.append_nil]
  | cons x rest ih =>
    intro pre i hi h1 h2 h3
    have ht : i.toNat = pre.length := by omega
    simp only [lsum_cons] at h2
    have h2' := h2
    try simp only [lsum_cons, TObject.n, TValue.n] at h2
    rw [List.length_cons] at h1; rw [List.length_cons] at h3
    have h := ih (pre ++ [x]) (i + 1) (by simp; omega) (by simp; omega) (by omega) (by simp; omega)
    simp only [map_snoc, List.map_append, List.map_cons, List.map_nil] at h
    simp only [List.append_assoc, List.cons_append, List.nil_append] at h
    unfold v224_m1
    simp (maxSteps := 9999999) (disch := omega) only [vx, px, ty, ↓reduceIte, Bool.false_eq_true, reduceCtorEq, Nat.reduceAdd, Nat.reduceSub, Nat.reduceLeDiff, Nat.reduceEqDiff, Nat.reduceLT, Nat.reduceMul, List.reduceReplicate, and_true, true_and, and_false, false_and, and_self, or_true, true_or, or_false, false_or, not_true_eq_false, not_false_eq_true, ne_eq, vxd, Nat.reduceBNe, w224_1, ht, ifT, most, List.map_cons, List.set_cons_zero, c_Object_copied]
    exact h
theorem c_Heap_copied (x : THeap) (sto : List (List D)) (h : THeap.n x ≤ 1048576) : vcall T 224 [D.agg [D.int .i64 x.Next, D.sl false 10 (List.map (TObject.e false) x.Objects)]] sto = some (D.agg [D.int .i64 x.Next, D.sl true 10 (List.map (TObject.e true) x.Objects)], [], sto) := by
  simp only [THeap.n] at h
  rw [vcall_go T (g := v224) rfl rfl rfl _ _ rfl]
  simp (maxSteps := 9999999) (disch := omega) only [vx, px, ty, ↓reduceIte, Bool.false_eq_true, reduceCtorEq, Nat.reduceAdd, Nat.reduceSub, Nat.reduceLeDiff, Nat.reduceEqDiff, Nat.reduceLT, Nat.reduceMul, List.reduceReplicate, and_true, true_and, and_false, false_and, and_self, or_true, true_or, or_false, false_or, not_true_eq_false, not_false_eq_true, ne_eq, vxd, Nat.reduceBNe, most, ifT, v224, v224_b, w224_1]
  have h1 := fun k c1 c2 v => l_copiedObjects (enF [.cell 2 (.many 2)] []) sto k c1 c2 v x.Objects.length x.Objects [] 0 rfl (by simp; omega) (by omega) (by simp)
  simp only [List.map_nil, List.nil_append] at h1
  rw [h1]
  simp (maxSteps := 9999999) (disch := omega) only [vx, px, ty, ↓reduceIte, Bool.false_eq_true, reduceCtorEq, Nat.reduceAdd, Nat.reduceSub, Nat.reduceLeDiff, Nat.reduceEqDiff, Nat.reduceLT, Nat.reduceMul, List.reduceReplicate, and_true, true_and, and_false, false_and, and_self, or_true, true_or, or_false, false_or, not_true_eq_false, not_false_eq_true, ne_eq, w224_1]
theorem l_copiedFiles {R : Type} (e : En R) (sto : List (List D)) (k : List Fr) (c1 c2 : List D) (v1 v2 v3 v4 : D) (len : Int) : ∀ (rest pre : List TFile) (i : Int), i = pre.length → pre.length + rest.length ≤ 1048576 → lsum TFile.n rest ≤ 1048576 → (pre.length : Int) + (rest.length : Int) = len →
    go T e v231_m1 (.lp v231_l1 :: .bl 0 :: .sq (.clr [0,1,5,6,7,8,9,10,11,12,13,14,15,16,17,18,19,20,21,22,23,24,25,26,27,28,29,30,31,32,33,34,35]) :: k) ⟨[Z, .box c1, .box c2, .box [v1, v2, v3, .sl true 4 (pre.map (TFile.e true)), v4], Z, Z, Z, Z, Z, Z, Z, Z, Z, Z, Z, Z, Z, Z, .ptr ⟨.slot 1, [], 3⟩, .d (.sl false 4 (pre.map (TFile.e false) ++ rest.map (TFile.e false))), .d (.int .i64 len), .d (.int .i64 i), Z, Z, Z, Z, Z, Z, Z, Z, Z, Z, Z, Z, Z, Z, Z], sto⟩ = bk T e k ⟨[Z, Z, .box c2, .box [v1, v2, v3, .sl true 4 (pre.map (TFile.e true) ++ rest.map (TFile.e true)), v4], Z, Z, Z, Z, Z, Z, Z, Z, Z, Z, Z, Z, Z, Z, Z, Z, Z, Z, Z, Z, Z, Z, Z, Z, Z, Z, Z, Z, Z, Z, Z, Z, Z], sto⟩ := by
  intro rest
  induction rest with
  | nil =>
    intro pre i hi h1 h2 h3
    have ht : i.toNat = pre.length := by omega
    have hl0 : ([] : List TFile).length = 0 := rfl
    unfold v231_m1
    simp (maxSteps := 9999999) (disch := omega) only [vx, px, ty, ↓reduceIte, Bool.false_eq_true, reduceCtorEq, Nat.reduceAdd, Nat.reduceSub, Nat.reduceLeDiff, Nat.reduceEqDiff, Nat.reduceLT, Nat.reduceMul, List.reduceReplicate, and_true, true_and, and_false, false_and, and_self, or_true, true_or, or_false, false_or, not_true_eq_false, not_false_eq_true, ne_eq, w231_1]
    try simp only [List.map_nil, List.append_nil]
  | cons x rest ih =>
    intro pre i hi h1 h2 h3
    have ht : i.toNat = pre.length := by omega
    simp only [lsum_cons] at h2
    have h2' := h2
    try simp only [lsum_cons, TFile.n] at h2
    rw [List.length_cons] at h1; rw [List.length_cons] at h3
    have h := ih (pre ++ [x]) (i + 1) (by simp; omega) (by simp; omega) (by omega) (by simp; omega)
    simp only [map_snoc, List.map_append, List.map_cons, List.map_nil] at h
    simp only [List.append_assoc, List.cons_append, List.nil_append] at h
    unfold v231_m1
    simp (maxSteps := 9999999) (disch := omega) only [vx, px, ty, ↓reduceIte, Bool.false_eq_true, reduceCtorEq, Nat.reduceAdd, Nat.reduceSub, Nat.reduceLeDiff, Nat.reduceEqDiff, Nat.reduceLT, Nat.reduceMul, List.reduceReplicate, and_true, true_and, and_false, false_and, and_self, or_true, true_or, or_false, false_or, not_true_eq_false, not_false_eq_true, ne_eq, vxd, Nat.reduceBNe, w231_1, ht, ifT, most, List.map_cons, List.set_cons_zero, c_CloneString]
    exact h
theorem c_Console_copied (x : TConsole) (sto : List (List D)) (h : TConsole.n x ≤ 1048576) : vcall T 231 [D.agg [D.sl false 1 (List.map D.str x.Input), D.int .i64 x.At, D.sl false 1 (List.map D.str x.Output), D.sl false 4 (List.map (TFile.e false) x.Files), D.sl false 1 (List.map D.str x.Trace)]] sto = some (D.agg [D.sl true 1 (List.map D.str x.Input), D.int .i64 x.At, D.sl true 1 (List.map D.str x.Output), D.sl true 4 (List.map (TFile.e true) x.Files), D.sl true 1 (List.map D.str x.Trace)], [], sto) := by
  simp only [TConsole.n] at h
  rw [vcall_go T (g := v231) rfl rfl rfl _ _ rfl]
  simp (maxSteps := 9999999) (disch := omega) only [vx, px, ty, ↓reduceIte, Bool.false_eq_true, reduceCtorEq, Nat.reduceAdd, Nat.reduceSub, Nat.reduceLeDiff, Nat.reduceEqDiff, Nat.reduceLT, Nat.reduceMul, List.reduceReplicate, and_true, true_and, and_false, false_and, and_self, or_true, true_or, or_false, false_or, not_true_eq_false, not_false_eq_true, ne_eq, vxd, Nat.reduceBNe, most, ifT, v231, v231_b, w231_1, c_CloneString]
  have h1 := fun k c1 c2 v1 v2 v3 v4 => l_copiedFiles (enF [.cell 2 (.many 5)] []) sto k c1 c2 v1 v2 v3 v4 x.Files.length x.Files [] 0 rfl (by simp; omega) (by omega) (by simp)
  simp only [List.map_nil, List.nil_append] at h1
  rw [h1]
  simp (maxSteps := 9999999) (disch := omega) only [vx, px, ty, ↓reduceIte, Bool.false_eq_true, reduceCtorEq, Nat.reduceAdd, Nat.reduceSub, Nat.reduceLeDiff, Nat.reduceEqDiff, Nat.reduceLT, Nat.reduceMul, List.reduceReplicate, and_true, true_and, and_false, false_and, and_self, or_true, true_or, or_false, false_or, not_true_eq_false, not_false_eq_true, ne_eq, w231_1, c_CloneString]
end Go.Vx.OcZ
