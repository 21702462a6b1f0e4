/-
 The laws' own functions: sz.
-/
import Derived.Test.YthfkpkfcnnhkeaaGreatTypes
import Derived.Test.YthfkpkfcnnhkeaaGreatCode
set_option linter.unusedVariables false
set_option linter.unusedSimpArgs false
namespace Go.Vx.NrZ
set_option linter.unusedVariables false
set_option linter.unusedSimpArgs false
set_option maxRecDepth 4000
set_option maxHeartbeats 4000000
theorem l_szStringS {R : Type} (e : En R) (sto : List (List D)) (k : List Fr) : ∀ (rest pre : List ByteArray) (i left : Int), i = pre.length → pre.length + rest.length ≤ 1048576 → ((lsum ByteArray.size rest : Nat) : Int) ≤ left → left ≤ 1048576 →
  go T e v12_m1 (.lp v12_l1 :: .bl 0 :: .sq (.clr [4,5,6,7,8,9,10,11,12,13,14,15,16,17,18,19,20,21,22,23,24,25,26]) :: k) ⟨[.d (.sl false 1 (pre.map D.str ++ rest.map D.str)), .d (.int .i64 left), Z, Z, Z, .d (.int .i64 i), Z, Z, Z, Z, Z, Z, Z, Z, Z, Z, Z, Z, Z, Z, Z, Z, Z, Z, Z, Z, Z, Z], sto⟩ = bk T e k ⟨[.d (.sl false 1 (pre.map D.str ++ rest.map D.str)), .d (.int .i64 (left - (lsum ByteArray.size rest : Nat))), Z, Z, Z, Z, Z, Z, Z, Z, Z, Z, Z, Z, Z, Z, Z, Z, Z, Z, Z, Z, Z, Z, Z, Z, Z, Z], sto⟩ := by
 intro rest
 induction rest with
 | nil =>
  intro pre i left hi h1 h2 h3
  have hR : left - ((lsum ByteArray.size ([] : List ByteArray) : Nat) : Int) = left := by simp [lsum_nil]
  have ht : i.toNat = pre.length := by omega
  rw [hR]
  unfold v12_m1
  simp (maxSteps := 9999999) (disch := omega) only [vx, px, ty, ↓reduceIte, Bool.false_eq_true, reduceCtorEq, Nat.reduceAdd, Nat.reduceSub, Nat.reduceLeDiff, Nat.reduceEqDiff, Nat.reduceLT, Nat.reduceMul, List.reduceReplicate, and_true, true_and, and_false, false_and, and_self, or_true, true_or, or_false, false_or, not_true_eq_false, not_false_eq_true, ne_eq, w12_1]
 | cons x rest ih =>
  intro pre i left hi h1 h2 h3
  have hR : left - ((lsum ByteArray.size (x :: rest) : Nat) : Int) = left - (ByteArray.size x : Nat) - (lsum ByteArray.size rest : Nat) := by rw [lsum_cons]; omega
  have ht : i.toNat = pre.length := by omega
  rw [lsum_cons] at h2
  rw [List.length_cons] at h1
  rw [hR]
  unfold v12_m1
  simp (maxSteps := 9999999) (disch := omega) only [vx, px, ty, ↓reduceIte, Bool.false_eq_true, reduceCtorEq, Nat.reduceAdd, Nat.reduceSub, Nat.reduceLeDiff, Nat.reduceEqDiff, Nat.reduceLT, Nat.reduceMul, List.reduceReplicate, and_true, true_and, and_false, false_and, and_self, or_true, true_or, or_false, false_or, not_true_eq_false, not_false_eq_true, ne_eq, w12_1, ht, List.map_cons, ifT]
  have h := ih (pre ++ [x]) (i + 1) (left - (ByteArray.size x : Nat)) (by simp; omega) (by simp; omega) (by omega) (by omega)
  simp only [map_snoc] at h
  exact h
theorem c_szStringS (xs : List ByteArray) (left : Int) (sto : List (List D)) (h : ((xs.length + lsum ByteArray.size xs : Nat) : Int) ≤ left) (h2 : left ≤ 1048576) : vcall T 12 [.sl false 1 (xs.map D.str), .int .i64 left] sto = some (.int .i64 (left - ((xs.length + lsum ByteArray.size xs : Nat) : Int)), [], sto) := by
 rw [vcall_go T (g := v12) rfl rfl rfl _ _ rfl]
 simp (maxSteps := 9999999) (disch := omega) only [vx, px, ty, ↓reduceIte, Bool.false_eq_true, reduceCtorEq, Nat.reduceAdd, Nat.reduceSub, Nat.reduceLeDiff, Nat.reduceEqDiff, Nat.reduceLT, Nat.reduceMul, List.reduceReplicate, and_true, true_and, and_false, false_and, and_self, or_true, true_or, or_false, false_or, not_true_eq_false, not_false_eq_true, ne_eq, v12, v12_b, w12_1]
 have hl := fun k => l_szStringS (enF [.tmp 4] []) sto k xs [] 0 (left - xs.length) rfl (by simp; omega) (by omega) (by omega)
 simp only [List.map_nil, List.nil_append] at hl
 rw [hl]
 simp (maxSteps := 9999999) (disch := omega) only [vx, px, ty, ↓reduceIte, Bool.false_eq_true, reduceCtorEq, Nat.reduceAdd, Nat.reduceSub, Nat.reduceLeDiff, Nat.reduceEqDiff, Nat.reduceLT, Nat.reduceMul, List.reduceReplicate, and_true, true_and, and_false, false_and, and_self, or_true, true_or, or_false, false_or, not_true_eq_false, not_false_eq_true, ne_eq]
 try exact congrArg (fun z => some (D.int .i64 z, ([] : List D), sto)) (by omega)
theorem c_szValue (x : TValue) (left : Int) (sto : List (List D)) (h : ((TValue.n x : Nat) : Int) ≤ left) (h2 : left ≤ 1048576) : vcall T 44 [D.agg [D.int .i64 x.Kind, D.int .i64 x.Num, D.str x.Text, D.int .i64 x.Ref], .int .i64 left] sto = some (.int .i64 (left - (TValue.n x : Nat)), [], sto) := by
 simp only [TValue.n] at h ⊢
 rw [vcall_go T (g := v44) rfl rfl rfl _ _ rfl]
 simp (maxSteps := 9999999) (disch := omega) only [vx, px, ty, ↓reduceIte, Bool.false_eq_true, reduceCtorEq, Nat.reduceAdd, Nat.reduceSub, Nat.reduceLeDiff, Nat.reduceEqDiff, Nat.reduceLT, Nat.reduceMul, List.reduceReplicate, and_true, true_and, and_false, false_and, and_self, or_true, true_or, or_false, false_or, not_true_eq_false, not_false_eq_true, ne_eq, v44, v44_b]
 try exact congrArg (fun z => some (D.int .i64 z, ([] : List D), sto)) (by omega)
theorem l_szValueS {R : Type} (e : En R) (sto : List (List D)) (k : List Fr) : ∀ (rest pre : List TValue) (i left : Int), i = pre.length → pre.length + rest.length ≤ 1048576 → ((lsum TValue.n rest : Nat) : Int) ≤ left → left ≤ 1048576 →
  go T e v29_m1 (.lp v29_l1 :: .bl 0 :: .sq (.clr [4,5,6,7,8,9,10,11,12,13,14,15,16,17,18,19,20,21,22,23,24,25]) :: k) ⟨[.d (.sl false 4 (pre.map (TValue.e false) ++ rest.map (TValue.e false))), .d (.int .i64 left), Z, Z, Z, .d (.int .i64 i), Z, Z, Z, Z, Z, Z, Z, Z, Z, Z, Z, Z, Z, Z, Z, Z, Z, Z, Z, Z, Z], sto⟩ = bk T e k ⟨[.d (.sl false 4 (pre.map (TValue.e false) ++ rest.map (TValue.e false))), .d (.int .i64 (left - (lsum TValue.n rest : Nat))), Z, Z, Z, Z, Z, Z, Z, Z, Z, Z, Z, Z, Z, Z, Z, Z, Z, Z, Z, Z, Z, Z, Z, Z, Z], sto⟩ := by
 intro rest
 induction rest with
 | nil =>
  intro pre i left hi h1 h2 h3
  have hR : left - ((lsum TValue.n ([] : List TValue) : Nat) : Int) = left := by simp [lsum_nil]
  have ht : i.toNat = pre.length := by omega
  rw [hR]
  unfold v29_m1
  simp (maxSteps := 9999999) (disch := omega) only [vx, px, ty, ↓reduceIte, Bool.false_eq_true, reduceCtorEq, Nat.reduceAdd, Nat.reduceSub, Nat.reduceLeDiff, Nat.reduceEqDiff, Nat.reduceLT, Nat.reduceMul, List.reduceReplicate, and_true, true_and, and_false, false_and, and_self, or_true, true_or, or_false, false_or, not_true_eq_false, not_false_eq_true, ne_eq, w29_1]
 | cons x rest ih =>
  intro pre i left hi h1 h2 h3
  have hR : left - ((lsum TValue.n (x :: rest) : Nat) : Int) = left - (TValue.n x : Nat) - (lsum TValue.n rest : Nat) := by rw [lsum_cons]; omega
  have ht : i.toNat = pre.length := by omega
  rw [lsum_cons] at h2
  rw [List.length_cons] at h1
  rw [hR]
  unfold v29_m1
  simp (maxSteps := 9999999) (disch := omega) only [vx, px, ty, ↓reduceIte, Bool.false_eq_true, reduceCtorEq, Nat.reduceAdd, Nat.reduceSub, Nat.reduceLeDiff, Nat.reduceEqDiff, Nat.reduceLT, Nat.reduceMul, List.reduceReplicate, and_true, true_and, and_false, false_and, and_self, or_true, true_or, or_false, false_or, not_true_eq_false, not_false_eq_true, ne_eq, w29_1, ht, List.map_cons, ifT, c_szValue]
  have h := ih (pre ++ [x]) (i + 1) (left - (TValue.n x : Nat)) (by simp; omega) (by simp; omega) (by omega) (by omega)
  simp only [map_snoc] at h
  exact h
theorem c_szValueS (xs : List TValue) (left : Int) (sto : List (List D)) (h : ((xs.length + lsum TValue.n xs : Nat) : Int) ≤ left) (h2 : left ≤ 1048576) : vcall T 29 [.sl false 4 (xs.map (TValue.e false)), .int .i64 left] sto = some (.int .i64 (left - ((xs.length + lsum TValue.n xs : Nat) : Int)), [], sto) := by
 rw [vcall_go T (g := v29) rfl rfl rfl _ _ rfl]
 simp (maxSteps := 9999999) (disch := omega) only [vx, px, ty, ↓reduceIte, Bool.false_eq_true, reduceCtorEq, Nat.reduceAdd, Nat.reduceSub, Nat.reduceLeDiff, Nat.reduceEqDiff, Nat.reduceLT, Nat.reduceMul, List.reduceReplicate, and_true, true_and, and_false, false_and, and_self, or_true, true_or, or_false, false_or, not_true_eq_false, not_false_eq_true, ne_eq, v29, v29_b, w29_1]
 have hl := fun k => l_szValueS (enF [.tmp 4] []) sto k xs [] 0 (left - xs.length) rfl (by simp; omega) (by omega) (by omega)
 simp only [List.map_nil, List.nil_append] at hl
 rw [hl]
 simp (maxSteps := 9999999) (disch := omega) only [vx, px, ty, ↓reduceIte, Bool.false_eq_true, reduceCtorEq, Nat.reduceAdd, Nat.reduceSub, Nat.reduceLeDiff, Nat.reduceEqDiff, Nat.reduceLT, Nat.reduceMul, List.reduceReplicate, and_true, true_and, and_false, false_and, and_self, or_true, true_or, or_false, false_or, not_true_eq_false, not_false_eq_true, ne_eq]
 try exact congrArg (fun z => some (D.int .i64 z, ([] : List D), sto)) (by omega)
theorem c_szObject (x : TObject) (left : Int) (sto : List (List D)) (h : ((TObject.n x : Nat) : Int) ≤ left) (h2 : left ≤ 1048576) : vcall T 164 [D.agg [D.int .i64 x.Id, D.int .i64 x.Kind, D.str x.Name, D.int .i64 x.Low, D.sl false 4 (List.map (TValue.e false) x.Keys), D.sl false 4 (List.map (TValue.e false) x.Vals), D.int .i64 x.Default.Kind, D.int .i64 x.Default.Num, D.str x.Default.Text, D.int .i64 x.Default.Ref], .int .i64 left] sto = some (.int .i64 (left - (TObject.n x : Nat)), [], sto) := by
 simp only [TObject.n] at h ⊢
 rw [vcall_go T (g := v164) rfl rfl rfl _ _ rfl]
 simp (maxSteps := 9999999) (disch := omega) only [vx, px, ty, ↓reduceIte, Bool.false_eq_true, reduceCtorEq, Nat.reduceAdd, Nat.reduceSub, Nat.reduceLeDiff, Nat.reduceEqDiff, Nat.reduceLT, Nat.reduceMul, List.reduceReplicate, and_true, true_and, and_false, false_and, and_self, or_true, true_or, or_false, false_or, not_true_eq_false, not_false_eq_true, ne_eq, v164, v164_b, c_szValue, c_szValueS]
 try exact congrArg (fun z => some (D.int .i64 z, ([] : List D), sto)) (by omega)
theorem l_szObjectS {R : Type} (e : En R) (sto : List (List D)) (k : List Fr) : ∀ (rest pre : List TObject) (i left : Int), i = pre.length → pre.length + rest.length ≤ 1048576 → ((lsum TObject.n rest : Nat) : Int) ≤ left → left ≤ 1048576 →
  go T e v91_m1 (.lp v91_l1 :: .bl 0 :: .sq (.clr [4,5,6,7,8,9,10,11,12,13,14,15,16,17,18,19,20,21,22,23,24,25]) :: k) ⟨[.d (.sl false 10 (pre.map (TObject.e false) ++ rest.map (TObject.e false))), .d (.int .i64 left), Z, Z, Z, .d (.int .i64 i), Z, Z, Z, Z, Z, Z, Z, Z, Z, Z, Z, Z, Z, Z, Z, Z, Z, Z, Z, Z, Z], sto⟩ = bk T e k ⟨[.d (.sl false 10 (pre.map (TObject.e false) ++ rest.map (TObject.e false))), .d (.int .i64 (left - (lsum TObject.n rest : Nat))), Z, Z, Z, Z, Z, Z, Z, Z, Z, Z, Z, Z, Z, Z, Z, Z, Z, Z, Z, Z, Z, Z, Z, Z, Z], sto⟩ := by
 intro rest
 induction rest with
 | nil =>
  intro pre i left hi h1 h2 h3
  have hR : left - ((lsum TObject.n ([] : List TObject) : Nat) : Int) = left := by simp [lsum_nil]
  have ht : i.toNat = pre.length := by omega
  rw [hR]
  unfold v91_m1
  simp (maxSteps := 9999999) (disch := omega) only [vx, px, ty, ↓reduceIte, Bool.false_eq_true, reduceCtorEq, Nat.reduceAdd, Nat.reduceSub, Nat.reduceLeDiff, Nat.reduceEqDiff, Nat.reduceLT, Nat.reduceMul, List.reduceReplicate, and_true, true_and, and_false, false_and, and_self, or_true, true_or, or_false, false_or, not_true_eq_false, not_false_eq_true, ne_eq, w91_1]
 | cons x rest ih =>
  intro pre i left hi h1 h2 h3
  have hR : left - ((lsum TObject.n (x :: rest) : Nat) : Int) = left - (TObject.n x : Nat) - (lsum TObject.n rest : Nat) := by rw [lsum_cons]; omega
  have ht : i.toNat = pre.length := by omega
  rw [lsum_cons] at h2
  rw [List.length_cons] at h1
  rw [hR]
  unfold v91_m1
  simp (maxSteps := 9999999) (disch := omega) only [vx, px, ty, ↓reduceIte, Bool.false_eq_true, reduceCtorEq, Nat.reduceAdd, Nat.reduceSub, Nat.reduceLeDiff, Nat.reduceEqDiff, Nat.reduceLT, Nat.reduceMul, List.reduceReplicate, and_true, true_and, and_false, false_and, and_self, or_true, true_or, or_false, false_or, not_true_eq_false, not_false_eq_true, ne_eq, w91_1, ht, List.map_cons, ifT, c_szObject]
  have h := ih (pre ++ [x]) (i + 1) (left - (TObject.n x : Nat)) (by simp; omega) (by simp; omega) (by omega) (by omega)
  simp only [map_snoc] at h
  exact h
theorem c_szObjectS (xs : List TObject) (left : Int) (sto : List (List D)) (h : ((xs.length + lsum TObject.n xs : Nat) : Int) ≤ left) (h2 : left ≤ 1048576) : vcall T 91 [.sl false 10 (xs.map (TObject.e false)), .int .i64 left] sto = some (.int .i64 (left - ((xs.length + lsum TObject.n xs : Nat) : Int)), [], sto) := by
 rw [vcall_go T (g := v91) rfl rfl rfl _ _ rfl]
 simp (maxSteps := 9999999) (disch := omega) only [vx, px, ty, ↓reduceIte, Bool.false_eq_true, reduceCtorEq, Nat.reduceAdd, Nat.reduceSub, Nat.reduceLeDiff, Nat.reduceEqDiff, Nat.reduceLT, Nat.reduceMul, List.reduceReplicate, and_true, true_and, and_false, false_and, and_self, or_true, true_or, or_false, false_or, not_true_eq_false, not_false_eq_true, ne_eq, v91, v91_b, w91_1]
 have hl := fun k => l_szObjectS (enF [.tmp 4] []) sto k xs [] 0 (left - xs.length) rfl (by simp; omega) (by omega) (by omega)
 simp only [List.map_nil, List.nil_append] at hl
 rw [hl]
 simp (maxSteps := 9999999) (disch := omega) only [vx, px, ty, ↓reduceIte, Bool.false_eq_true, reduceCtorEq, Nat.reduceAdd, Nat.reduceSub, Nat.reduceLeDiff, Nat.reduceEqDiff, Nat.reduceLT, Nat.reduceMul, List.reduceReplicate, and_true, true_and, and_false, false_and, and_self, or_true, true_or, or_false, false_or, not_true_eq_false, not_false_eq_true, ne_eq]
 try exact congrArg (fun z => some (D.int .i64 z, ([] : List D), sto)) (by omega)
theorem c_szHeap (x : THeap) (left : Int) (sto : List (List D)) (h : ((THeap.n x : Nat) : Int) ≤ left) (h2 : left ≤ 1048576) : vcall T 36 [D.agg [D.int .i64 x.Next, D.sl false 10 (List.map (TObject.e false) x.Objects)], .int .i64 left] sto = some (.int .i64 (left - (THeap.n x : Nat)), [], sto) := by
 simp only [THeap.n] at h ⊢
 rw [vcall_go T (g := v36) rfl rfl rfl _ _ rfl]
 simp (maxSteps := 9999999) (disch := omega) only [vx, px, ty, ↓reduceIte, Bool.false_eq_true, reduceCtorEq, Nat.reduceAdd, Nat.reduceSub, Nat.reduceLeDiff, Nat.reduceEqDiff, Nat.reduceLT, Nat.reduceMul, List.reduceReplicate, and_true, true_and, and_false, false_and, and_self, or_true, true_or, or_false, false_or, not_true_eq_false, not_false_eq_true, ne_eq, v36, v36_b, c_szObjectS]
 try exact congrArg (fun z => some (D.int .i64 z, ([] : List D), sto)) (by omega)
end Go.Vx.NrZ
