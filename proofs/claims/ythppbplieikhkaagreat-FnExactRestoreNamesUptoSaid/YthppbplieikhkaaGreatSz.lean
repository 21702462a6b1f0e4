/-
  The laws' own functions: sz.
-/
import Derived.Test.YthppbplieikhkaaGreatTypes
import Derived.Test.YthppbplieikhkaaGreatCode
set_option linter.unusedVariables false
set_option linter.unusedSimpArgs false
namespace Go.Vx.RnZ
set_option linter.unusedVariables false
set_option linter.unusedSimpArgs false
set_option maxRecDepth 4000
set_option maxHeartbeats 4000000
theorem znV {R : Type} (e : En R) (sto : List (List D)) (k : List Fr) : ∀ (rest pre : List ByteArray) (i left : Int), i = pre.length → pre.length + rest.length ≤ 1048576 → ((lsum ByteArray.size rest : Nat) : Int) ≤ left → left ≤ 1048576 →
  go T e zjN (.lp zlJ :: .bl 0 :: .sq (.clr [4,5,6,7,8,9,10,11,12,13,14,15,16,17,18,19,20,21,22,23,24,25,26]) :: k) ⟨[.d (.sl false 1 (pre.map D.str ++ rest.map D.str)), .d (.int .i64 left), Z, Z, Z, .d (.int .i64 i), Z, Z, Z, Z, Z, Z, Z, Z, Z, Z, Z, Z, Z, Z, Z, Z, Z, Z, Z, Z, Z, Z], sto⟩ = bk T e k ⟨[.d (.sl false 1 (pre.map D.str ++ rest.map D.str)), .d (.int .i64 (left - (lsum ByteArray.size rest : Nat))), Z, Z, Z, Z, Z, Z, Z, Z, Z, Z, Z, Z, Z, Z, Z, Z, Z, Z, Z, Z, Z, Z, Z, Z, Z, Z], sto⟩ := by
 intro rest
 induction rest with
 | nil =>
  intro pre i left hi h1 h2 h3
  have hR : left - ((lsum ByteArray.size ([] : List ByteArray) : Nat) : Int) = left := by simp [zdL]
  have ht : i.toNat = pre.length := by omega
  rw [hR]
  unfold zjN
  simp (maxSteps := 9999999) (disch := omega) only [vx, px, ty, ↓reduceIte, Bool.false_eq_true, reduceCtorEq, Nat.reduceAdd, Nat.reduceSub, Nat.reduceLeDiff, Nat.reduceEqDiff, Nat.reduceLT, Nat.reduceMul, List.reduceReplicate, and_true, true_and, and_false, false_and, and_self, or_true, true_or, or_false, false_or, not_true_eq_false, not_false_eq_true, ne_eq, zrX]
 | cons x rest ih =>
  intro pre i left hi h1 h2 h3
  have hR : left - ((lsum ByteArray.size (x :: rest) : Nat) : Int) = left - (ByteArray.size x : Nat) - (lsum ByteArray.size rest : Nat) := by rw [zap]; omega
  have ht : i.toNat = pre.length := by omega
  rw [zap] at h2
  rw [List.length_cons] at h1
  rw [hR]
  unfold zjN
  simp (maxSteps := 9999999) (disch := omega) only [vx, px, ty, ↓reduceIte, Bool.false_eq_true, reduceCtorEq, Nat.reduceAdd, Nat.reduceSub, Nat.reduceLeDiff, Nat.reduceEqDiff, Nat.reduceLT, Nat.reduceMul, List.reduceReplicate, and_true, true_and, and_false, false_and, and_self, or_true, true_or, or_false, false_or, not_true_eq_false, not_false_eq_true, ne_eq, zrX, ht, List.map_cons, ifT]
  have h := ih (pre ++ [x]) (i + 1) (left - (ByteArray.size x : Nat)) (by simp; omega) (by simp; omega) (by omega) (by omega)
  simp only [zbb] at h
  exact h
theorem zjQ (xs : List ByteArray) (left : Int) (sto : List (List D)) (h : ((xs.length + lsum ByteArray.size xs : Nat) : Int) ≤ left) (h2 : left ≤ 1048576) : zab T 114 [.sl false 1 (xs.map D.str), .int .i64 left] sto = some (.int .i64 (left - ((xs.length + lsum ByteArray.size xs : Nat) : Int)), [], sto) := by
 rw [zaf T (g := v114) rfl rfl rfl _ _ rfl]
 simp (maxSteps := 9999999) (disch := omega) only [vx, px, ty, ↓reduceIte, Bool.false_eq_true, reduceCtorEq, Nat.reduceAdd, Nat.reduceSub, Nat.reduceLeDiff, Nat.reduceEqDiff, Nat.reduceLT, Nat.reduceMul, List.reduceReplicate, and_true, true_and, and_false, false_and, and_self, or_true, true_or, or_false, false_or, not_true_eq_false, not_false_eq_true, ne_eq, v114, ztN, zrX]
 have hl := fun k => znV (enF [.tmp 4] []) sto k xs [] 0 (left - xs.length) rfl (by simp; omega) (by omega) (by omega)
 simp only [List.map_nil, List.nil_append] at hl
 rw [hl]
 simp (maxSteps := 9999999) (disch := omega) only [vx, px, ty, ↓reduceIte, Bool.false_eq_true, reduceCtorEq, Nat.reduceAdd, Nat.reduceSub, Nat.reduceLeDiff, Nat.reduceEqDiff, Nat.reduceLT, Nat.reduceMul, List.reduceReplicate, and_true, true_and, and_false, false_and, and_self, or_true, true_or, or_false, false_or, not_true_eq_false, not_false_eq_true, ne_eq]
 try exact congrArg (fun z => some (D.int .i64 z, ([] : List D), sto)) (by omega)
theorem zsc (x : TValue) (left : Int) (sto : List (List D)) (h : ((TValue.n x : Nat) : Int) ≤ left) (h2 : left ≤ 1048576) : zab T 7 [D.agg [D.int .i64 x.Kind, D.int .i64 x.Num, D.str x.Text, D.int .i64 x.Ref], .int .i64 left] sto = some (.int .i64 (left - (TValue.n x : Nat)), [], sto) := by
 simp only [TValue.n] at h ⊢
 rw [zaf T (g := v7) rfl rfl rfl _ _ rfl]
 simp (maxSteps := 9999999) (disch := omega) only [vx, px, ty, ↓reduceIte, Bool.false_eq_true, reduceCtorEq, Nat.reduceAdd, Nat.reduceSub, Nat.reduceLeDiff, Nat.reduceEqDiff, Nat.reduceLT, Nat.reduceMul, List.reduceReplicate, and_true, true_and, and_false, false_and, and_self, or_true, true_or, or_false, false_or, not_true_eq_false, not_false_eq_true, ne_eq, v7, v7_b]
 try exact congrArg (fun z => some (D.int .i64 z, ([] : List D), sto)) (by omega)
theorem znW (x : TBinding) (left : Int) (sto : List (List D)) (h : ((TBinding.n x : Nat) : Int) ≤ left) (h2 : left ≤ 1048576) : zab T 46 [D.agg [D.str x.Name, D.int .i64 x.Value.Kind, D.int .i64 x.Value.Num, D.str x.Value.Text, D.int .i64 x.Value.Ref], .int .i64 left] sto = some (.int .i64 (left - (TBinding.n x : Nat)), [], sto) := by
 simp only [TBinding.n] at h ⊢
 rw [zaf T (g := v46) rfl rfl rfl _ _ rfl]
 simp (maxSteps := 9999999) (disch := omega) only [vx, px, ty, ↓reduceIte, Bool.false_eq_true, reduceCtorEq, Nat.reduceAdd, Nat.reduceSub, Nat.reduceLeDiff, Nat.reduceEqDiff, Nat.reduceLT, Nat.reduceMul, List.reduceReplicate, and_true, true_and, and_false, false_and, and_self, or_true, true_or, or_false, false_or, not_true_eq_false, not_false_eq_true, ne_eq, v46, zwE, zsc]
 try exact congrArg (fun z => some (D.int .i64 z, ([] : List D), sto)) (by omega)
theorem zng {R : Type} (e : En R) (sto : List (List D)) (k : List Fr) : ∀ (rest pre : List TBinding) (i left : Int), i = pre.length → pre.length + rest.length ≤ 1048576 → ((lsum TBinding.n rest : Nat) : Int) ≤ left → left ≤ 1048576 →
  go T e zmO (.lp zoL :: .bl 0 :: .sq (.clr [4,5,6,7,8,9,10,11,12,13,14,15,16,17,18,19,20,21,22,23,24,25]) :: k) ⟨[.d (.sl false 5 (pre.map (TBinding.e false) ++ rest.map (TBinding.e false))), .d (.int .i64 left), Z, Z, Z, .d (.int .i64 i), Z, Z, Z, Z, Z, Z, Z, Z, Z, Z, Z, Z, Z, Z, Z, Z, Z, Z, Z, Z, Z], sto⟩ = bk T e k ⟨[.d (.sl false 5 (pre.map (TBinding.e false) ++ rest.map (TBinding.e false))), .d (.int .i64 (left - (lsum TBinding.n rest : Nat))), Z, Z, Z, Z, Z, Z, Z, Z, Z, Z, Z, Z, Z, Z, Z, Z, Z, Z, Z, Z, Z, Z, Z, Z, Z], sto⟩ := by
 intro rest
 induction rest with
 | nil =>
  intro pre i left hi h1 h2 h3
  have hR : left - ((lsum TBinding.n ([] : List TBinding) : Nat) : Int) = left := by simp [zdL]
  have ht : i.toNat = pre.length := by omega
  rw [hR]
  unfold zmO
  simp (maxSteps := 9999999) (disch := omega) only [vx, px, ty, ↓reduceIte, Bool.false_eq_true, reduceCtorEq, Nat.reduceAdd, Nat.reduceSub, Nat.reduceLeDiff, Nat.reduceEqDiff, Nat.reduceLT, Nat.reduceMul, List.reduceReplicate, and_true, true_and, and_false, false_and, and_self, or_true, true_or, or_false, false_or, not_true_eq_false, not_false_eq_true, ne_eq, zuG]
 | cons x rest ih =>
  intro pre i left hi h1 h2 h3
  have hR : left - ((lsum TBinding.n (x :: rest) : Nat) : Int) = left - (TBinding.n x : Nat) - (lsum TBinding.n rest : Nat) := by rw [zap]; omega
  have ht : i.toNat = pre.length := by omega
  rw [zap] at h2
  rw [List.length_cons] at h1
  rw [hR]
  unfold zmO
  simp (maxSteps := 9999999) (disch := omega) only [vx, px, ty, ↓reduceIte, Bool.false_eq_true, reduceCtorEq, Nat.reduceAdd, Nat.reduceSub, Nat.reduceLeDiff, Nat.reduceEqDiff, Nat.reduceLT, Nat.reduceMul, List.reduceReplicate, and_true, true_and, and_false, false_and, and_self, or_true, true_or, or_false, false_or, not_true_eq_false, not_false_eq_true, ne_eq, zuG, ht, List.map_cons, ifT, znW]
  have h := ih (pre ++ [x]) (i + 1) (left - (TBinding.n x : Nat)) (by simp; omega) (by simp; omega) (by omega) (by omega)
  simp only [zbb] at h
  exact h
theorem ziK (xs : List TBinding) (left : Int) (sto : List (List D)) (h : ((xs.length + lsum TBinding.n xs : Nat) : Int) ≤ left) (h2 : left ≤ 1048576) : zab T 15 [.sl false 5 (xs.map (TBinding.e false)), .int .i64 left] sto = some (.int .i64 (left - ((xs.length + lsum TBinding.n xs : Nat) : Int)), [], sto) := by
 rw [zaf T (g := v15) rfl rfl rfl _ _ rfl]
 simp (maxSteps := 9999999) (disch := omega) only [vx, px, ty, ↓reduceIte, Bool.false_eq_true, reduceCtorEq, Nat.reduceAdd, Nat.reduceSub, Nat.reduceLeDiff, Nat.reduceEqDiff, Nat.reduceLT, Nat.reduceMul, List.reduceReplicate, and_true, true_and, and_false, false_and, and_self, or_true, true_or, or_false, false_or, not_true_eq_false, not_false_eq_true, ne_eq, v15, zwe, zuG]
 have hl := fun k => zng (enF [.tmp 4] []) sto k xs [] 0 (left - xs.length) rfl (by simp; omega) (by omega) (by omega)
 simp only [List.map_nil, List.nil_append] at hl
 rw [hl]
 simp (maxSteps := 9999999) (disch := omega) only [vx, px, ty, ↓reduceIte, Bool.false_eq_true, reduceCtorEq, Nat.reduceAdd, Nat.reduceSub, Nat.reduceLeDiff, Nat.reduceEqDiff, Nat.reduceLT, Nat.reduceMul, List.reduceReplicate, and_true, true_and, and_false, false_and, and_self, or_true, true_or, or_false, false_or, not_true_eq_false, not_false_eq_true, ne_eq]
 try exact congrArg (fun z => some (D.int .i64 z, ([] : List D), sto)) (by omega)
theorem znh (x : TFunction) (left : Int) (sto : List (List D)) (h : ((TFunction.n x : Nat) : Int) ≤ left) (h2 : left ≤ 1048576) : zab T 66 [D.agg [D.str x.Name, D.sl false 1 (List.map D.str x.Params), D.sl false 1 (List.map D.str x.Locals), D.str x.Label], .int .i64 left] sto = some (.int .i64 (left - (TFunction.n x : Nat)), [], sto) := by
 simp only [TFunction.n] at h ⊢
 rw [zaf T (g := v66) rfl rfl rfl _ _ rfl]
 simp (maxSteps := 9999999) (disch := omega) only [vx, px, ty, ↓reduceIte, Bool.false_eq_true, reduceCtorEq, Nat.reduceAdd, Nat.reduceSub, Nat.reduceLeDiff, Nat.reduceEqDiff, Nat.reduceLT, Nat.reduceMul, List.reduceReplicate, and_true, true_and, and_false, false_and, and_self, or_true, true_or, or_false, false_or, not_true_eq_false, not_false_eq_true, ne_eq, v66, zwO, zjQ]
 try exact congrArg (fun z => some (D.int .i64 z, ([] : List D), sto)) (by omega)
theorem zlS {R : Type} (e : En R) (sto : List (List D)) (k : List Fr) : ∀ (rest pre : List TFunction) (i left : Int), i = pre.length → pre.length + rest.length ≤ 1048576 → ((lsum TFunction.n rest : Nat) : Int) ≤ left → left ≤ 1048576 →
  go T e zmS (.lp zoX :: .bl 0 :: .sq (.clr [4,5,6,7,8,9,10,11,12,13,14,15,16,17,18,19,20,21,22,23,24,25]) :: k) ⟨[.d (.sl false 4 (pre.map (TFunction.e false) ++ rest.map (TFunction.e false))), .d (.int .i64 left), Z, Z, Z, .d (.int .i64 i), Z, Z, Z, Z, Z, Z, Z, Z, Z, Z, Z, Z, Z, Z, Z, Z, Z, Z, Z, Z, Z], sto⟩ = bk T e k ⟨[.d (.sl false 4 (pre.map (TFunction.e false) ++ rest.map (TFunction.e false))), .d (.int .i64 (left - (lsum TFunction.n rest : Nat))), Z, Z, Z, Z, Z, Z, Z, Z, Z, Z, Z, Z, Z, Z, Z, Z, Z, Z, Z, Z, Z, Z, Z, Z, Z], sto⟩ := by
 intro rest
 induction rest with
 | nil =>
  intro pre i left hi h1 h2 h3
  have hR : left - ((lsum TFunction.n ([] : List TFunction) : Nat) : Int) = left := by simp [zdL]
  have ht : i.toNat = pre.length := by omega
  rw [hR]
  unfold zmS
  simp (maxSteps := 9999999) (disch := omega) only [vx, px, ty, ↓reduceIte, Bool.false_eq_true, reduceCtorEq, Nat.reduceAdd, Nat.reduceSub, Nat.reduceLeDiff, Nat.reduceEqDiff, Nat.reduceLT, Nat.reduceMul, List.reduceReplicate, and_true, true_and, and_false, false_and, and_self, or_true, true_or, or_false, false_or, not_true_eq_false, not_false_eq_true, ne_eq, zuK]
 | cons x rest ih =>
  intro pre i left hi h1 h2 h3
  have hR : left - ((lsum TFunction.n (x :: rest) : Nat) : Int) = left - (TFunction.n x : Nat) - (lsum TFunction.n rest : Nat) := by rw [zap]; omega
  have ht : i.toNat = pre.length := by omega
  rw [zap] at h2
  rw [List.length_cons] at h1
  rw [hR]
  unfold zmS
  simp (maxSteps := 9999999) (disch := omega) only [vx, px, ty, ↓reduceIte, Bool.false_eq_true, reduceCtorEq, Nat.reduceAdd, Nat.reduceSub, Nat.reduceLeDiff, Nat.reduceEqDiff, Nat.reduceLT, Nat.reduceMul, List.reduceReplicate, and_true, true_and, and_false, false_and, and_self, or_true, true_or, or_false, false_or, not_true_eq_false, not_false_eq_true, ne_eq, zuK, ht, List.map_cons, ifT, znh]
  have h := ih (pre ++ [x]) (i + 1) (left - (TFunction.n x : Nat)) (by simp; omega) (by simp; omega) (by omega) (by omega)
  simp only [zbb] at h
  exact h
theorem zlT (xs : List TFunction) (left : Int) (sto : List (List D)) (h : ((xs.length + lsum TFunction.n xs : Nat) : Int) ≤ left) (h2 : left ≤ 1048576) : zab T 27 [.sl false 4 (xs.map (TFunction.e false)), .int .i64 left] sto = some (.int .i64 (left - ((xs.length + lsum TFunction.n xs : Nat) : Int)), [], sto) := by
 rw [zaf T (g := v27) rfl rfl rfl _ _ rfl]
 simp (maxSteps := 9999999) (disch := omega) only [vx, px, ty, ↓reduceIte, Bool.false_eq_true, reduceCtorEq, Nat.reduceAdd, Nat.reduceSub, Nat.reduceLeDiff, Nat.reduceEqDiff, Nat.reduceLT, Nat.reduceMul, List.reduceReplicate, and_true, true_and, and_false, false_and, and_self, or_true, true_or, or_false, false_or, not_true_eq_false, not_false_eq_true, ne_eq, v27, zwm, zuK]
 have hl := fun k => zlS (enF [.tmp 4] []) sto k xs [] 0 (left - xs.length) rfl (by simp; omega) (by omega) (by omega)
 simp only [List.map_nil, List.nil_append] at hl
 rw [hl]
 simp (maxSteps := 9999999) (disch := omega) only [vx, px, ty, ↓reduceIte, Bool.false_eq_true, reduceCtorEq, Nat.reduceAdd, Nat.reduceSub, Nat.reduceLeDiff, Nat.reduceEqDiff, Nat.reduceLT, Nat.reduceMul, List.reduceReplicate, and_true, true_and, and_false, false_and, and_self, or_true, true_or, or_false, false_or, not_true_eq_false, not_false_eq_true, ne_eq]
 try exact congrArg (fun z => some (D.int .i64 z, ([] : List D), sto)) (by omega)
theorem zkA (x : TRecordType) (left : Int) (sto : List (List D)) (h : ((TRecordType.n x : Nat) : Int) ≤ left) (h2 : left ≤ 1048576) : zab T 67 [D.agg [D.str x.Name, D.sl false 1 (List.map D.str x.Fields)], .int .i64 left] sto = some (.int .i64 (left - (TRecordType.n x : Nat)), [], sto) := by
 simp only [TRecordType.n] at h ⊢
 rw [zaf T (g := v67) rfl rfl rfl _ _ rfl]
 simp (maxSteps := 9999999) (disch := omega) only [vx, px, ty, ↓reduceIte, Bool.false_eq_true, reduceCtorEq, Nat.reduceAdd, Nat.reduceSub, Nat.reduceLeDiff, Nat.reduceEqDiff, Nat.reduceLT, Nat.reduceMul, List.reduceReplicate, and_true, true_and, and_false, false_and, and_self, or_true, true_or, or_false, false_or, not_true_eq_false, not_false_eq_true, ne_eq, v67, zwP, zjQ]
 try exact congrArg (fun z => some (D.int .i64 z, ([] : List D), sto)) (by omega)
theorem zjR {R : Type} (e : En R) (sto : List (List D)) (k : List Fr) : ∀ (rest pre : List TRecordType) (i left : Int), i = pre.length → pre.length + rest.length ≤ 1048576 → ((lsum TRecordType.n rest : Nat) : Int) ≤ left → left ≤ 1048576 →
  go T e zmT (.lp zoY :: .bl 0 :: .sq (.clr [4,5,6,7,8,9,10,11,12,13,14,15,16,17,18,19,20,21,22,23,24,25]) :: k) ⟨[.d (.sl false 2 (pre.map (TRecordType.e false) ++ rest.map (TRecordType.e false))), .d (.int .i64 left), Z, Z, Z, .d (.int .i64 i), Z, Z, Z, Z, Z, Z, Z, Z, Z, Z, Z, Z, Z, Z, Z, Z, Z, Z, Z, Z, Z], sto⟩ = bk T e k ⟨[.d (.sl false 2 (pre.map (TRecordType.e false) ++ rest.map (TRecordType.e false))), .d (.int .i64 (left - (lsum TRecordType.n rest : Nat))), Z, Z, Z, Z, Z, Z, Z, Z, Z, Z, Z, Z, Z, Z, Z, Z, Z, Z, Z, Z, Z, Z, Z, Z, Z], sto⟩ := by
 intro rest
 induction rest with
 | nil =>
  intro pre i left hi h1 h2 h3
  have hR : left - ((lsum TRecordType.n ([] : List TRecordType) : Nat) : Int) = left := by simp [zdL]
  have ht : i.toNat = pre.length := by omega
  rw [hR]
  unfold zmT
  simp (maxSteps := 9999999) (disch := omega) only [vx, px, ty, ↓reduceIte, Bool.false_eq_true, reduceCtorEq, Nat.reduceAdd, Nat.reduceSub, Nat.reduceLeDiff, Nat.reduceEqDiff, Nat.reduceLT, Nat.reduceMul, List.reduceReplicate, and_true, true_and, and_false, false_and, and_self, or_true, true_or, or_false, false_or, not_true_eq_false, not_false_eq_true, ne_eq, zuL]
 | cons x rest ih =>
  intro pre i left hi h1 h2 h3
  have hR : left - ((lsum TRecordType.n (x :: rest) : Nat) : Int) = left - (TRecordType.n x : Nat) - (lsum TRecordType.n rest : Nat) := by rw [zap]; omega
  have ht : i.toNat = pre.length := by omega
  rw [zap] at h2
  rw [List.length_cons] at h1
  rw [hR]
  unfold zmT
  simp (maxSteps := 9999999) (disch := omega) only [vx, px, ty, ↓reduceIte, Bool.false_eq_true, reduceCtorEq, Nat.reduceAdd, Nat.reduceSub, Nat.reduceLeDiff, Nat.reduceEqDiff, Nat.reduceLT, Nat.reduceMul, List.reduceReplicate, and_true, true_and, and_false, false_and, and_self, or_true, true_or, or_false, false_or, not_true_eq_false, not_false_eq_true, ne_eq, zuL, ht, List.map_cons, ifT, zkA]
  have h := ih (pre ++ [x]) (i + 1) (left - (TRecordType.n x : Nat)) (by simp; omega) (by simp; omega) (by omega) (by omega)
  simp only [zbb] at h
  exact h
theorem zjS (xs : List TRecordType) (left : Int) (sto : List (List D)) (h : ((xs.length + lsum TRecordType.n xs : Nat) : Int) ≤ left) (h2 : left ≤ 1048576) : zab T 28 [.sl false 2 (xs.map (TRecordType.e false)), .int .i64 left] sto = some (.int .i64 (left - ((xs.length + lsum TRecordType.n xs : Nat) : Int)), [], sto) := by
 rw [zaf T (g := v28) rfl rfl rfl _ _ rfl]
 simp (maxSteps := 9999999) (disch := omega) only [vx, px, ty, ↓reduceIte, Bool.false_eq_true, reduceCtorEq, Nat.reduceAdd, Nat.reduceSub, Nat.reduceLeDiff, Nat.reduceEqDiff, Nat.reduceLT, Nat.reduceMul, List.reduceReplicate, and_true, true_and, and_false, false_and, and_self, or_true, true_or, or_false, false_or, not_true_eq_false, not_false_eq_true, ne_eq, v28, zwn, zuL]
 have hl := fun k => zjR (enF [.tmp 4] []) sto k xs [] 0 (left - xs.length) rfl (by simp; omega) (by omega) (by omega)
 simp only [List.map_nil, List.nil_append] at hl
 rw [hl]
 simp (maxSteps := 9999999) (disch := omega) only [vx, px, ty, ↓reduceIte, Bool.false_eq_true, reduceCtorEq, Nat.reduceAdd, Nat.reduceSub, Nat.reduceLeDiff, Nat.reduceEqDiff, Nat.reduceLT, Nat.reduceMul, List.reduceReplicate, and_true, true_and, and_false, false_and, and_self, or_true, true_or, or_false, false_or, not_true_eq_false, not_false_eq_true, ne_eq]
 try exact congrArg (fun z => some (D.int .i64 z, ([] : List D), sto)) (by omega)
theorem zsd (x : TScope) (left : Int) (sto : List (List D)) (h : ((TScope.n x : Nat) : Int) ≤ left) (h2 : left ≤ 1048576) : zab T 6 [D.agg [D.sl false 5 (List.map (TBinding.e false) x.Vars), D.sl false 4 (List.map (TFunction.e false) x.Functions), D.sl false 2 (List.map (TRecordType.e false) x.Types)], .int .i64 left] sto = some (.int .i64 (left - (TScope.n x : Nat)), [], sto) := by
 simp only [TScope.n] at h ⊢
 rw [zaf T (g := v6) rfl rfl rfl _ _ rfl]
 simp (maxSteps := 9999999) (disch := omega) only [vx, px, ty, ↓reduceIte, Bool.false_eq_true, reduceCtorEq, Nat.reduceAdd, Nat.reduceSub, Nat.reduceLeDiff, Nat.reduceEqDiff, Nat.reduceLT, Nat.reduceMul, List.reduceReplicate, and_true, true_and, and_false, false_and, and_self, or_true, true_or, or_false, false_or, not_true_eq_false, not_false_eq_true, ne_eq, v6, v6_b, ziK, zlT, zjS]
 try exact congrArg (fun z => some (D.int .i64 z, ([] : List D), sto)) (by omega)
end Go.Vx.RnZ
