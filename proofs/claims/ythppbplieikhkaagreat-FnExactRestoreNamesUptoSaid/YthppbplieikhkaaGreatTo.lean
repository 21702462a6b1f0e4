/-
  The laws' own functions: to.
-/
import Derived.Test.YthppbplieikhkaaGreatTypes
import Derived.Test.YthppbplieikhkaaGreatCode
set_option linter.unusedVariables false
set_option linter.unusedSimpArgs false
namespace Go.Vx.RnZ
set_option linter.unusedVariables false
set_option linter.unusedSimpArgs false
set_option maxRecDepth 4000
set_option maxHeartbeats 4000000
theorem znX {R : Type} (e : En R) (sto : List (List D)) (k : List Fr) : ∀ (rest pre : List ByteArray) (i : Int), i = pre.length → pre.length + rest.length ≤ 1048576 → lsum ByteArray.size rest ≤ 1048576 →
  go T e zjO (.lp zlK :: .bl 0 :: .sq (.clr [2,4,5,6,7,8,9,10,11,12,13,14,15,16,17,18,19,20]) :: k) ⟨[.d (.sl false 1 (pre.map D.str ++ rest.map D.str)), Z, Z, .d (.sl true 1 (pre.map D.str ++ zcQ (.str .empty) rest.length)), .d (.int .i64 i), Z, Z, Z, Z, Z, Z, Z, Z, Z, Z, Z, Z, Z, Z, Z, Z, Z], sto⟩ = bk T e k ⟨[.d (.sl false 1 (pre.map D.str ++ rest.map D.str)), Z, Z, .d (.sl true 1 (pre.map D.str ++ rest.map D.str)), Z, Z, Z, Z, Z, Z, Z, Z, Z, Z, Z, Z, Z, Z, Z, Z, Z, Z], sto⟩ := by
 intro rest
 induction rest with
 | nil =>
  intro pre i hi h1 h2
  have ht : i.toNat = pre.length := by omega
  unfold zjO
  simp (maxSteps := 9999999) (disch := omega) only [vx, px, ty, ↓reduceIte, Bool.false_eq_true, reduceCtorEq, Nat.reduceAdd, Nat.reduceSub, Nat.reduceLeDiff, Nat.reduceEqDiff, Nat.reduceLT, Nat.reduceMul, List.reduceReplicate, and_true, true_and, and_false, false_and, and_self, or_true, true_or, or_false, false_or, not_true_eq_false, not_false_eq_true, ne_eq, zrY]
 | cons x rest ih =>
  intro pre i hi h1 h2
  have ht : i.toNat = pre.length := by omega
  rw [zap] at h2
  rw [List.length_cons] at h1
  unfold zjO
  simp (maxSteps := 9999999) (disch := omega) only [vx, px, ty, ↓reduceIte, Bool.false_eq_true, reduceCtorEq, Nat.reduceAdd, Nat.reduceSub, Nat.reduceLeDiff, Nat.reduceEqDiff, Nat.reduceLT, Nat.reduceMul, List.reduceReplicate, and_true, true_and, and_false, false_and, and_self, or_true, true_or, or_false, false_or, not_true_eq_false, not_false_eq_true, ne_eq, zrY, ht, List.map_cons, ifT]
  have h := ih (pre ++ [x]) (i + 1) (by simp; omega) (by simp; omega) (by omega)
  simp only [zbb] at h
  exact h
theorem zjT (xs : List ByteArray) (sto : List (List D)) (h : xs.length ≤ 1048576) (h2 : lsum ByteArray.size xs ≤ 1048576) : zab T 117 [.sl false 1 (xs.map D.str)] sto = some (.sl true 1 (xs.map D.str), [], sto) := by
 have hm : xs.length ≤ xs.length ∧ xs.length ≤ most := ⟨Nat.le_refl _, by unfold most; omega⟩
 rw [zaf T (g := v117) rfl rfl rfl _ _ rfl]
 simp (maxSteps := 9999999) (disch := omega) only [vx, px, ty, ↓reduceIte, Bool.false_eq_true, reduceCtorEq, Nat.reduceAdd, Nat.reduceSub, Nat.reduceLeDiff, Nat.reduceEqDiff, Nat.reduceLT, Nat.reduceMul, List.reduceReplicate, and_true, true_and, and_false, false_and, and_self, or_true, true_or, or_false, false_or, not_true_eq_false, not_false_eq_true, ne_eq, v117, ztQ, zrY, hm, ifT]
 have hl := fun k => znX (enF [.tmp 2] []) sto k xs [] 0 rfl (by simp; omega) h2
 simp only [List.map_nil, List.nil_append] at hl
 rw [hl]
 simp (maxSteps := 9999999) (disch := omega) only [vx, px, ty, ↓reduceIte, Bool.false_eq_true, reduceCtorEq, Nat.reduceAdd, Nat.reduceSub, Nat.reduceLeDiff, Nat.reduceEqDiff, Nat.reduceLT, Nat.reduceMul, List.reduceReplicate, and_true, true_and, and_false, false_and, and_self, or_true, true_or, or_false, false_or, not_true_eq_false, not_false_eq_true, ne_eq]
theorem zse (x : TValue) (sto : List (List D)) (h : TValue.n x ≤ 1048576) : zab T 10 [D.agg [D.int .i64 x.Kind, D.int .i64 x.Num, D.str x.Text, D.int .i64 x.Ref]] sto = some (D.agg [D.int .i64 x.Kind, D.int .i64 x.Num, D.str x.Text, D.int .i64 x.Ref], [], sto) := by
 simp only [TValue.n] at h
 rw [zaf T (g := v10) rfl rfl rfl _ _ rfl]
 simp (maxSteps := 9999999) (disch := omega) only [vx, px, ty, ↓reduceIte, Bool.false_eq_true, reduceCtorEq, Nat.reduceAdd, Nat.reduceSub, Nat.reduceLeDiff, Nat.reduceEqDiff, Nat.reduceLT, Nat.reduceMul, List.reduceReplicate, and_true, true_and, and_false, false_and, and_self, or_true, true_or, or_false, false_or, not_true_eq_false, not_false_eq_true, ne_eq, v10, zwb]
theorem znY (x : TBinding) (sto : List (List D)) (h : TBinding.n x ≤ 1048576) : zab T 48 [D.agg [D.str x.Name, D.int .i64 x.Value.Kind, D.int .i64 x.Value.Num, D.str x.Value.Text, D.int .i64 x.Value.Ref]] sto = some (D.agg [D.str x.Name, D.int .i64 x.Value.Kind, D.int .i64 x.Value.Num, D.str x.Value.Text, D.int .i64 x.Value.Ref], [], sto) := by
 simp only [TBinding.n] at h
 rw [zaf T (g := v48) rfl rfl rfl _ _ rfl]
 simp (maxSteps := 9999999) (disch := omega) only [vx, px, ty, ↓reduceIte, Bool.false_eq_true, reduceCtorEq, Nat.reduceAdd, Nat.reduceSub, Nat.reduceLeDiff, Nat.reduceEqDiff, Nat.reduceLT, Nat.reduceMul, List.reduceReplicate, and_true, true_and, and_false, false_and, and_self, or_true, true_or, or_false, false_or, not_true_eq_false, not_false_eq_true, ne_eq, v48, zwG, zse]
theorem zni {R : Type} (e : En R) (sto : List (List D)) (k : List Fr) : ∀ (rest pre : List TBinding) (i : Int), i = pre.length → pre.length + rest.length ≤ 1048576 → lsum TBinding.n rest ≤ 1048576 →
  go T e zmP (.lp zoO :: .bl 0 :: .sq (.clr [2,4,5,6,7,8,9,10,11,12,13,14,15,16,17,18,19,20,21]) :: k) ⟨[.d (.sl false 5 (pre.map (TBinding.e false) ++ rest.map (TBinding.e false))), Z, Z, .d (.sl true 5 (pre.map (TBinding.e false) ++ zcQ (.agg [.str .empty, .int .i64 0, .int .i64 0, .str .empty, .int .i64 0]) rest.length)), .d (.int .i64 i), Z, Z, Z, Z, Z, Z, Z, Z, Z, Z, Z, Z, Z, Z, Z, Z, Z, Z], sto⟩ = bk T e k ⟨[.d (.sl false 5 (pre.map (TBinding.e false) ++ rest.map (TBinding.e false))), Z, Z, .d (.sl true 5 (pre.map (TBinding.e false) ++ rest.map (TBinding.e false))), Z, Z, Z, Z, Z, Z, Z, Z, Z, Z, Z, Z, Z, Z, Z, Z, Z, Z, Z], sto⟩ := by
 intro rest
 induction rest with
 | nil =>
  intro pre i hi h1 h2
  have ht : i.toNat = pre.length := by omega
  unfold zmP
  simp (maxSteps := 9999999) (disch := omega) only [vx, px, ty, ↓reduceIte, Bool.false_eq_true, reduceCtorEq, Nat.reduceAdd, Nat.reduceSub, Nat.reduceLeDiff, Nat.reduceEqDiff, Nat.reduceLT, Nat.reduceMul, List.reduceReplicate, and_true, true_and, and_false, false_and, and_self, or_true, true_or, or_false, false_or, not_true_eq_false, not_false_eq_true, ne_eq, zuH]
 | cons x rest ih =>
  intro pre i hi h1 h2
  have ht : i.toNat = pre.length := by omega
  rw [zap] at h2
  rw [List.length_cons] at h1
  unfold zmP
  simp (maxSteps := 9999999) (disch := omega) only [vx, px, ty, ↓reduceIte, Bool.false_eq_true, reduceCtorEq, Nat.reduceAdd, Nat.reduceSub, Nat.reduceLeDiff, Nat.reduceEqDiff, Nat.reduceLT, Nat.reduceMul, List.reduceReplicate, and_true, true_and, and_false, false_and, and_self, or_true, true_or, or_false, false_or, not_true_eq_false, not_false_eq_true, ne_eq, zuH, ht, List.map_cons, ifT, znY]
  have h := ih (pre ++ [x]) (i + 1) (by simp; omega) (by simp; omega) (by omega)
  simp only [zbb] at h
  exact h
theorem ziL (xs : List TBinding) (sto : List (List D)) (h : xs.length ≤ 1048576) (h2 : lsum TBinding.n xs ≤ 1048576) : zab T 17 [.sl false 5 (xs.map (TBinding.e false))] sto = some (.sl true 5 (xs.map (TBinding.e false)), [], sto) := by
 have hm : xs.length ≤ xs.length ∧ xs.length ≤ most := ⟨Nat.le_refl _, by unfold most; omega⟩
 rw [zaf T (g := v17) rfl rfl rfl _ _ rfl]
 simp (maxSteps := 9999999) (disch := omega) only [vx, px, ty, ↓reduceIte, Bool.false_eq_true, reduceCtorEq, Nat.reduceAdd, Nat.reduceSub, Nat.reduceLeDiff, Nat.reduceEqDiff, Nat.reduceLT, Nat.reduceMul, List.reduceReplicate, and_true, true_and, and_false, false_and, and_self, or_true, true_or, or_false, false_or, not_true_eq_false, not_false_eq_true, ne_eq, v17, zwh, zuH, hm, ifT]
 have hl := fun k => zni (enF [.tmp 2] []) sto k xs [] 0 rfl (by simp; omega) h2
 simp only [List.map_nil, List.nil_append] at hl
 rw [hl]
 simp (maxSteps := 9999999) (disch := omega) only [vx, px, ty, ↓reduceIte, Bool.false_eq_true, reduceCtorEq, Nat.reduceAdd, Nat.reduceSub, Nat.reduceLeDiff, Nat.reduceEqDiff, Nat.reduceLT, Nat.reduceMul, List.reduceReplicate, and_true, true_and, and_false, false_and, and_self, or_true, true_or, or_false, false_or, not_true_eq_false, not_false_eq_true, ne_eq]
theorem znj (x : TFunction) (sto : List (List D)) (h : TFunction.n x ≤ 1048576) : zab T 71 [D.agg [D.str x.Name, D.sl false 1 (List.map D.str x.Params), D.sl false 1 (List.map D.str x.Locals), D.str x.Label]] sto = some (D.agg [D.str x.Name, D.sl true 1 (List.map D.str x.Params), D.sl true 1 (List.map D.str x.Locals), D.str x.Label], [], sto) := by
 simp only [TFunction.n] at h
 rw [zaf T (g := v71) rfl rfl rfl _ _ rfl]
 simp (maxSteps := 9999999) (disch := omega) only [vx, px, ty, ↓reduceIte, Bool.false_eq_true, reduceCtorEq, Nat.reduceAdd, Nat.reduceSub, Nat.reduceLeDiff, Nat.reduceEqDiff, Nat.reduceLT, Nat.reduceMul, List.reduceReplicate, and_true, true_and, and_false, false_and, and_self, or_true, true_or, or_false, false_or, not_true_eq_false, not_false_eq_true, ne_eq, v71, zwT, zjT]
theorem zlU {R : Type} (e : En R) (sto : List (List D)) (k : List Fr) : ∀ (rest pre : List TFunction) (i : Int), i = pre.length → pre.length + rest.length ≤ 1048576 → lsum TFunction.n rest ≤ 1048576 →
  go T e zmV (.lp zpb :: .bl 0 :: .sq (.clr [2,4,5,6,7,8,9,10,11,12,13,14,15,16,17,18,19,20,21]) :: k) ⟨[.d (.sl false 4 (pre.map (TFunction.e false) ++ rest.map (TFunction.e false))), Z, Z, .d (.sl true 4 (pre.map (TFunction.e true) ++ zcQ (.agg [.str .empty, .sl true 1 [], .sl true 1 [], .str .empty]) rest.length)), .d (.int .i64 i), Z, Z, Z, Z, Z, Z, Z, Z, Z, Z, Z, Z, Z, Z, Z, Z, Z, Z], sto⟩ = bk T e k ⟨[.d (.sl false 4 (pre.map (TFunction.e false) ++ rest.map (TFunction.e false))), Z, Z, .d (.sl true 4 (pre.map (TFunction.e true) ++ rest.map (TFunction.e true))), Z, Z, Z, Z, Z, Z, Z, Z, Z, Z, Z, Z, Z, Z, Z, Z, Z, Z, Z], sto⟩ := by
 intro rest
 induction rest with
 | nil =>
  intro pre i hi h1 h2
  have ht : i.toNat = pre.length := by omega
  unfold zmV
  simp (maxSteps := 9999999) (disch := omega) only [vx, px, ty, ↓reduceIte, Bool.false_eq_true, reduceCtorEq, Nat.reduceAdd, Nat.reduceSub, Nat.reduceLeDiff, Nat.reduceEqDiff, Nat.reduceLT, Nat.reduceMul, List.reduceReplicate, and_true, true_and, and_false, false_and, and_self, or_true, true_or, or_false, false_or, not_true_eq_false, not_false_eq_true, ne_eq, zuM]
 | cons x rest ih =>
  intro pre i hi h1 h2
  have ht : i.toNat = pre.length := by omega
  rw [zap] at h2
  rw [List.length_cons] at h1
  unfold zmV
  simp (maxSteps := 9999999) (disch := omega) only [vx, px, ty, ↓reduceIte, Bool.false_eq_true, reduceCtorEq, Nat.reduceAdd, Nat.reduceSub, Nat.reduceLeDiff, Nat.reduceEqDiff, Nat.reduceLT, Nat.reduceMul, List.reduceReplicate, and_true, true_and, and_false, false_and, and_self, or_true, true_or, or_false, false_or, not_true_eq_false, not_false_eq_true, ne_eq, zuM, ht, List.map_cons, ifT, znj]
  have h := ih (pre ++ [x]) (i + 1) (by simp; omega) (by simp; omega) (by omega)
  simp only [zbb] at h
  exact h
theorem zlV (xs : List TFunction) (sto : List (List D)) (h : xs.length ≤ 1048576) (h2 : lsum TFunction.n xs ≤ 1048576) : zab T 32 [.sl false 4 (xs.map (TFunction.e false))] sto = some (.sl true 4 (xs.map (TFunction.e true)), [], sto) := by
 have hm : xs.length ≤ xs.length ∧ xs.length ≤ most := ⟨Nat.le_refl _, by unfold most; omega⟩
 rw [zaf T (g := v32) rfl rfl rfl _ _ rfl]
 simp (maxSteps := 9999999) (disch := omega) only [vx, px, ty, ↓reduceIte, Bool.false_eq_true, reduceCtorEq, Nat.reduceAdd, Nat.reduceSub, Nat.reduceLeDiff, Nat.reduceEqDiff, Nat.reduceLT, Nat.reduceMul, List.reduceReplicate, and_true, true_and, and_false, false_and, and_self, or_true, true_or, or_false, false_or, not_true_eq_false, not_false_eq_true, ne_eq, v32, zwq, zuM, hm, ifT]
 have hl := fun k => zlU (enF [.tmp 2] []) sto k xs [] 0 rfl (by simp; omega) h2
 simp only [List.map_nil, List.nil_append] at hl
 rw [hl]
 simp (maxSteps := 9999999) (disch := omega) only [vx, px, ty, ↓reduceIte, Bool.false_eq_true, reduceCtorEq, Nat.reduceAdd, Nat.reduceSub, Nat.reduceLeDiff, Nat.reduceEqDiff, Nat.reduceLT, Nat.reduceMul, List.reduceReplicate, and_true, true_and, and_false, false_and, and_self, or_true, true_or, or_false, false_or, not_true_eq_false, not_false_eq_true, ne_eq]
theorem zkB (x : TRecordType) (sto : List (List D)) (h : TRecordType.n x ≤ 1048576) : zab T 72 [D.agg [D.str x.Name, D.sl false 1 (List.map D.str x.Fields)]] sto = some (D.agg [D.str x.Name, D.sl true 1 (List.map D.str x.Fields)], [], sto) := by
 simp only [TRecordType.n] at h
 rw [zaf T (g := v72) rfl rfl rfl _ _ rfl]
 simp (maxSteps := 9999999) (disch := omega) only [vx, px, ty, ↓reduceIte, Bool.false_eq_true, reduceCtorEq, Nat.reduceAdd, Nat.reduceSub, Nat.reduceLeDiff, Nat.reduceEqDiff, Nat.reduceLT, Nat.reduceMul, List.reduceReplicate, and_true, true_and, and_false, false_and, and_self, or_true, true_or, or_false, false_or, not_true_eq_false, not_false_eq_true, ne_eq, v72, zwU, zjT]
theorem zjU {R : Type} (e : En R) (sto : List (List D)) (k : List Fr) : ∀ (rest pre : List TRecordType) (i : Int), i = pre.length → pre.length + rest.length ≤ 1048576 → lsum TRecordType.n rest ≤ 1048576 →
  go T e zmW (.lp zpc :: .bl 0 :: .sq (.clr [2,4,5,6,7,8,9,10,11,12,13,14,15,16,17,18,19,20,21]) :: k) ⟨[.d (.sl false 2 (pre.map (TRecordType.e false) ++ rest.map (TRecordType.e false))), Z, Z, .d (.sl true 2 (pre.map (TRecordType.e true) ++ zcQ (.agg [.str .empty, .sl true 1 []]) rest.length)), .d (.int .i64 i), Z, Z, Z, Z, Z, Z, Z, Z, Z, Z, Z, Z, Z, Z, Z, Z, Z, Z], sto⟩ = bk T e k ⟨[.d (.sl false 2 (pre.map (TRecordType.e false) ++ rest.map (TRecordType.e false))), Z, Z, .d (.sl true 2 (pre.map (TRecordType.e true) ++ rest.map (TRecordType.e true))), Z, Z, Z, Z, Z, Z, Z, Z, Z, Z, Z, Z, Z, Z, Z, Z, Z, Z, Z], sto⟩ := by
 intro rest
 induction rest with
 | nil =>
  intro pre i hi h1 h2
  have ht : i.toNat = pre.length := by omega
  unfold zmW
  simp (maxSteps := 9999999) (disch := omega) only [vx, px, ty, ↓reduceIte, Bool.false_eq_true, reduceCtorEq, Nat.reduceAdd, Nat.reduceSub, Nat.reduceLeDiff, Nat.reduceEqDiff, Nat.reduceLT, Nat.reduceMul, List.reduceReplicate, and_true, true_and, and_false, false_and, and_self, or_true, true_or, or_false, false_or, not_true_eq_false, not_false_eq_true, ne_eq, zuN]
 | cons x rest ih =>
  intro pre i hi h1 h2
  have ht : i.toNat = pre.length := by omega
  rw [zap] at h2
  rw [List.length_cons] at h1
  unfold zmW
  simp (maxSteps := 9999999) (disch := omega) only [vx, px, ty, ↓reduceIte, Bool.false_eq_true, reduceCtorEq, Nat.reduceAdd, Nat.reduceSub, Nat.reduceLeDiff, Nat.reduceEqDiff, Nat.reduceLT, Nat.reduceMul, List.reduceReplicate, and_true, true_and, and_false, false_and, and_self, or_true, true_or, or_false, false_or, not_true_eq_false, not_false_eq_true, ne_eq, zuN, ht, List.map_cons, ifT, zkB]
  have h := ih (pre ++ [x]) (i + 1) (by simp; omega) (by simp; omega) (by omega)
  simp only [zbb] at h
  exact h
theorem zjV (xs : List TRecordType) (sto : List (List D)) (h : xs.length ≤ 1048576) (h2 : lsum TRecordType.n xs ≤ 1048576) : zab T 33 [.sl false 2 (xs.map (TRecordType.e false))] sto = some (.sl true 2 (xs.map (TRecordType.e true)), [], sto) := by
 have hm : xs.length ≤ xs.length ∧ xs.length ≤ most := ⟨Nat.le_refl _, by unfold most; omega⟩
 rw [zaf T (g := v33) rfl rfl rfl _ _ rfl]
 simp (maxSteps := 9999999) (disch := omega) only [vx, px, ty, ↓reduceIte, Bool.false_eq_true, reduceCtorEq, Nat.reduceAdd, Nat.reduceSub, Nat.reduceLeDiff, Nat.reduceEqDiff, Nat.reduceLT, Nat.reduceMul, List.reduceReplicate, and_true, true_and, and_false, false_and, and_self, or_true, true_or, or_false, false_or, not_true_eq_false, not_false_eq_true, ne_eq, v33, zwr, zuN, hm, ifT]
 have hl := fun k => zjU (enF [.tmp 2] []) sto k xs [] 0 rfl (by simp; omega) h2
 simp only [List.map_nil, List.nil_append] at hl
 rw [hl]
 simp (maxSteps := 9999999) (disch := omega) only [vx, px, ty, ↓reduceIte, Bool.false_eq_true, reduceCtorEq, Nat.reduceAdd, Nat.reduceSub, Nat.reduceLeDiff, Nat.reduceEqDiff, Nat.reduceLT, Nat.reduceMul, List.reduceReplicate, and_true, true_and, and_false, false_and, and_self, or_true, true_or, or_false, false_or, not_true_eq_false, not_false_eq_true, ne_eq]
theorem zsf (x : TScope) (sto : List (List D)) (h : TScope.n x ≤ 1048576) : zab T 9 [D.agg [D.sl false 5 (List.map (TBinding.e false) x.Vars), D.sl false 4 (List.map (TFunction.e false) x.Functions), D.sl false 2 (List.map (TRecordType.e false) x.Types)]] sto = some (D.agg [D.sl true 5 (List.map (TBinding.e false) x.Vars), D.sl true 4 (List.map (TFunction.e true) x.Functions), D.sl true 2 (List.map (TRecordType.e true) x.Types)], [], sto) := by
 simp only [TScope.n] at h
 rw [zaf T (g := v9) rfl rfl rfl _ _ rfl]
 simp (maxSteps := 9999999) (disch := omega) only [vx, px, ty, ↓reduceIte, Bool.false_eq_true, reduceCtorEq, Nat.reduceAdd, Nat.reduceSub, Nat.reduceLeDiff, Nat.reduceEqDiff, Nat.reduceLT, Nat.reduceMul, List.reduceReplicate, and_true, true_and, and_false, false_and, and_self, or_true, true_or, or_false, false_or, not_true_eq_false, not_false_eq_true, ne_eq, v9, v9_b, ziL, zlV, zjV]
end Go.Vx.RnZ
