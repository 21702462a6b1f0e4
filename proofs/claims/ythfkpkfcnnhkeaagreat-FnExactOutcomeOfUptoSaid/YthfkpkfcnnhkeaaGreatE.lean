/-
  The laws' own functions: sizes, copies, comparisons, marks.
-/

import Derived.Test.YthfkpkfcnnhkeaaGreatTypes
import Derived.Test.YthfkpkfcnnhkeaaGreatCode
set_option linter.unusedVariables false
set_option linter.unusedSimpArgs false
namespace Go.Vx.OcZ
set_option linter.unusedVariables false
set_option linter.unusedSimpArgs false
set_option maxRecDepth 4000
set_option maxHeartbeats 2000000
theorem c_l18OwnFunction (x : TFunction) (sto : List (List D)) (h : TFunction.n x ≤ 1048576) : vcall T 83 [D.agg [D.str x.Name, D.sl false 1 (List.map D.str x.Params), D.sl false 1 (List.map D.str x.Locals), D.str x.Label]] sto = some (D.agg [D.str x.Name, D.sl true 1 (List.map D.str x.Params), D.sl true 1 (List.map D.str x.Locals), D.str x.Label], [], sto) := by
  simp only [TFunction.n] at h
  rw [vcall_go T (g := v83) rfl rfl rfl _ _ rfl]
  simp (maxSteps := 9999999) (disch := omega) only [vx, px, ty, ↓reduceIte, Bool.false_eq_true, reduceCtorEq, Nat.reduceAdd, Nat.reduceSub, Nat.reduceLeDiff, Nat.reduceEqDiff, Nat.reduceLT, Nat.reduceMul, List.reduceReplicate, and_true, true_and, and_false, false_and, and_self, or_true, true_or, or_false, false_or, not_true_eq_false, not_false_eq_true, ne_eq, vxd, Nat.reduceBNe, most, ifT, v83, v83_b]
theorem c_l18OwnType (x : TRecordType) (sto : List (List D)) (h : TRecordType.n x ≤ 1048576) : vcall T 163 [D.agg [D.str x.Name, D.sl false 1 (List.map D.str x.Fields)]] sto = some (D.agg [D.str x.Name, D.sl true 1 (List.map D.str x.Fields)], [], sto) := by
  simp only [TRecordType.n] at h
  rw [vcall_go T (g := v163) rfl rfl rfl _ _ rfl]
  simp (maxSteps := 9999999) (disch := omega) only [vx, px, ty, ↓reduceIte, Bool.false_eq_true, reduceCtorEq, Nat.reduceAdd, Nat.reduceSub, Nat.reduceLeDiff, Nat.reduceEqDiff, Nat.reduceLT, Nat.reduceMul, List.reduceReplicate, and_true, true_and, and_false, false_and, and_self, or_true, true_or, or_false, false_or, not_true_eq_false, not_false_eq_true, ne_eq, vxd, Nat.reduceBNe, most, ifT, v163, v163_b]
theorem l_ownFunctions {R : Type} (e : En R) (sto : List (List D)) (k : List Fr) (c2 : List D) (v1 v2 v t : D) : ∀ (rest pre : List TFunction) (i : Int), i = pre.length → pre.length + rest.length ≤ 1048576 → lsum TFunction.n rest ≤ 1048576 → 
    go T e v87_m1 (.lp v87_l1 :: .bl 0 :: .sq (.clr [0,4,6,7,8,9,10,11,12,13,14,15,16,17,18,19,20,21,22,23,24,25,26,27,28]) :: k) ⟨[Z, .box [v1, .sl false 4 (pre.map (TFunction.e false) ++ rest.map (TFunction.e false)), v2], .box c2, .box [v, .sl true 4 (pre.map (TFunction.e true)), t], .d (.int .i64 i), Z, Z, Z, Z, Z, Z, Z, Z, Z, Z, Z, Z, Z, Z, Z, Z, Z, Z, Z, Z, Z, Z, Z, Z, Z, Z, Z, Z, Z, Z, Z, Z, Z, Z, Z, Z, Z, Z, Z, Z, Z, Z, Z], sto⟩ = bk T e k ⟨[Z, .box [v1, .sl false 4 (pre.map (TFunction.e false) ++ rest.map (TFunction.e false)), v2], .box c2, .box [v, .sl true 4 (pre.map (TFunction.e true) ++ rest.map (TFunction.e true)), t], Z, Z, Z, Z, Z, Z, Z, Z, Z, Z, Z, Z, Z, Z, Z, Z, Z, Z, Z, Z, Z, Z, Z, Z, Z, Z, Z, Z, Z, Z, Z, Z, Z, Z, Z, Z, Z, Z, Z, Z, Z, Z, Z, Z], sto⟩ := by
  intro rest
  induction rest with
  | nil =>
    intro pre i hi h1 h2
    have ht : i.toNat = pre.length := by omega
    have hl0 : ([] : List TFunction).length = 0 := rfl
    unfold v87_m1
    simp (maxSteps := 9999999) (disch := omega) only [vx, px, ty, ↓reduceIte, Bool.false_eq_true, reduceCtorEq, Nat.reduceAdd, Nat.reduceSub, Nat.reduceLeDiff, Nat.reduceEqDiff, Nat.reduceLT, Nat.reduceMul, List.reduceReplicate, and_true, true_and, and_false, false_and, and_self, or_true, true_or, or_false, false_or, not_true_eq_false, not_false_eq_true, ne_eq, w87_1]
    try simp only [List.map_nil, List.append_nil]
  | cons x rest ih =>
    intro pre i hi h1 h2
    have ht : i.toNat = pre.length := by omega
    simp only [lsum_cons] at h2
    have h2' := h2
    try simp only [lsum_cons, TFunction.n] at h2
    rw [List.length_cons] at h1
    have h := ih (pre ++ [x]) (i + 1) (by simp; omega) (by simp; omega) (by omega)
    simp only [map_snoc, List.map_append, List.map_cons, List.map_nil] at h
    simp only [List.append_assoc, List.cons_append, List.nil_append] at h
    unfold v87_m1
    simp (maxSteps := 9999999) (disch := omega) only [vx, px, ty, ↓reduceIte, Bool.false_eq_true, reduceCtorEq, Nat.reduceAdd, Nat.reduceSub, Nat.reduceLeDiff, Nat.reduceEqDiff, Nat.reduceLT, Nat.reduceMul, List.reduceReplicate, and_true, true_and, and_false, false_and, and_self, or_true, true_or, or_false, false_or, not_true_eq_false, not_false_eq_true, ne_eq, vxd, Nat.reduceBNe, w87_1, ht, ifT, most, List.map_cons, List.set_cons_zero, c_l18OwnFunction]
    exact h
theorem l_ownTypes {R : Type} (e : En R) (sto : List (List D)) (k : List Fr) (c2 : List D) (v1 v2 v t : D) : ∀ (rest pre : List TRecordType) (i : Int), i = pre.length → pre.length + rest.length ≤ 1048576 → lsum TRecordType.n rest ≤ 1048576 → 
    go T e v87_m2 (.lp v87_l2 :: .bl 2 :: .sq (.clr [0,1,4,5,6,7,8,9,10,11,12,13,14,15,16,17,18,19,20,21,22,23,24,25,26,27,28,29,30,31,32,33,34,35,36,37,38,39,40,41,42,43,44,45,46]) :: k) ⟨[Z, .box [v1, v2, .sl false 2 (pre.map (TRecordType.e false) ++ rest.map (TRecordType.e false))], .box c2, .box [v, t, .sl true 2 (pre.map (TRecordType.e true))], Z, .d (.int .i64 i), Z, Z, Z, Z, Z, Z, Z, Z, Z, Z, Z, Z, Z, Z, Z, Z, Z, Z, Z, Z, Z, Z, Z, Z, Z, Z, Z, Z, Z, Z, Z, Z, Z, Z, Z, Z, Z, Z, Z, Z, Z, Z], sto⟩ = bk T e k ⟨[Z, Z, .box c2, .box [v, t, .sl true 2 (pre.map (TRecordType.e true) ++ rest.map (TRecordType.e true))], Z, Z, Z, Z, Z, Z, Z, Z, Z, Z, Z, Z, Z, Z, Z, Z, Z, Z, Z, Z, Z, Z, Z, Z, Z, Z, Z, Z, Z, Z, Z, Z, Z, Z, Z, Z, Z, Z, Z, Z, Z, Z, Z, Z], sto⟩ := by
  intro rest
  induction rest with
  | nil =>
    intro pre i hi h1 h2
    have ht : i.toNat = pre.length := by omega
    have hl0 : ([] : List TRecordType).length = 0 := rfl
    unfold v87_m2
    simp (maxSteps := 9999999) (disch := omega) only [vx, px, ty, ↓reduceIte, Bool.false_eq_true, reduceCtorEq, Nat.reduceAdd, Nat.reduceSub, Nat.reduceLeDiff, Nat.reduceEqDiff, Nat.reduceLT, Nat.reduceMul, List.reduceReplicate, and_true, true_and, and_false, false_and, and_self, or_true, true_or, or_false, false_or, not_true_eq_false, not_false_eq_true, ne_eq, w87_2]
    try simp only [List.map_nil, List.append_nil]
  | cons x rest ih =>
    intro pre i hi h1 h2
    have ht : i.toNat = pre.length := by omega
    simp only [lsum_cons] at h2
    have h2' := h2
    try simp only [lsum_cons, TRecordType.n] at h2
    rw [List.length_cons] at h1
    have h := ih (pre ++ [x]) (i + 1) (by simp; omega) (by simp; omega) (by omega)
    simp only [map_snoc, List.map_append, List.map_cons, List.map_nil] at h
    simp only [List.append_assoc, List.cons_append, List.nil_append] at h
    unfold v87_m2
    simp (maxSteps := 9999999) (disch := omega) only [vx, px, ty, ↓reduceIte, Bool.false_eq_true, reduceCtorEq, Nat.reduceAdd, Nat.reduceSub, Nat.reduceLeDiff, Nat.reduceEqDiff, Nat.reduceLT, Nat.reduceMul, List.reduceReplicate, and_true, true_and, and_false, false_and, and_self, or_true, true_or, or_false, false_or, not_true_eq_false, not_false_eq_true, ne_eq, vxd, Nat.reduceBNe, w87_2, ht, ifT, most, List.map_cons, List.set_cons_zero, c_l18OwnType]
    exact h
theorem c_l18Own (x : TScope) (sto : List (List D)) (h : TScope.n x ≤ 1048576) : vcall T 87 [D.agg [D.sl false 5 (List.map (TBinding.e false) x.Vars), D.sl false 4 (List.map (TFunction.e false) x.Functions), D.sl false 2 (List.map (TRecordType.e false) x.Types)]] sto = some (D.agg [D.sl true 5 (List.map (TBinding.e false) x.Vars), D.sl true 4 (List.map (TFunction.e true) x.Functions), D.sl true 2 (List.map (TRecordType.e true) x.Types)], [], sto) := by
  simp only [TScope.n] at h
  rw [vcall_go T (g := v87) rfl rfl rfl _ _ rfl]
  simp (maxSteps := 9999999) (disch := omega) only [vx, px, ty, ↓reduceIte, Bool.false_eq_true, reduceCtorEq, Nat.reduceAdd, Nat.reduceSub, Nat.reduceLeDiff, Nat.reduceEqDiff, Nat.reduceLT, Nat.reduceMul, List.reduceReplicate, and_true, true_and, and_false, false_and, and_self, or_true, true_or, or_false, false_or, not_true_eq_false, not_false_eq_true, ne_eq, vxd, Nat.reduceBNe, most, ifT, v87, v87_b, w87_1, w87_2]
  have h1 := fun k c2 v1 v2 v t => l_ownFunctions (enF [.cell 2 (.many 3)] []) sto k c2 v1 v2 v t x.Functions [] 0 rfl (by simp; omega) (by omega)
  simp only [List.map_nil, List.nil_append] at h1
  rw [h1]
  simp (maxSteps := 9999999) (disch := omega) only [vx, px, ty, ↓reduceIte, Bool.false_eq_true, reduceCtorEq, Nat.reduceAdd, Nat.reduceSub, Nat.reduceLeDiff, Nat.reduceEqDiff, Nat.reduceLT, Nat.reduceMul, List.reduceReplicate, and_true, true_and, and_false, false_and, and_self, or_true, true_or, or_false, false_or, not_true_eq_false, not_false_eq_true, ne_eq, w87_1, w87_2]
  have h2 := fun k c2 v1 v2 v t => l_ownTypes (enF [.cell 2 (.many 3)] []) sto k c2 v1 v2 v t x.Types [] 0 rfl (by simp; omega) (by omega)
  simp only [List.map_nil, List.nil_append] at h2
  rw [h2]
  simp (maxSteps := 9999999) (disch := omega) only [vx, px, ty, ↓reduceIte, Bool.false_eq_true, reduceCtorEq, Nat.reduceAdd, Nat.reduceSub, Nat.reduceLeDiff, Nat.reduceEqDiff, Nat.reduceLT, Nat.reduceMul, List.reduceReplicate, and_true, true_and, and_false, false_and, and_self, or_true, true_or, or_false, false_or, not_true_eq_false, not_false_eq_true, ne_eq, w87_1, w87_2]
theorem l_heapObjects {R : Type} (e : En R) (sto : List (List D)) (k : List Fr) (c2 : List D) (v1 v : D) : ∀ (rest pre : List TObject) (i : Int), i = pre.length → pre.length + rest.length ≤ 1048576 → lsum TObject.n rest ≤ 1048576 → 
    go T e v186_m1 (.lp v186_l1 :: .bl 0 :: .sq (.clr [0,1,4,5,6,7,8,9,10,11,12,13,14,15,16,17,18,19,20,21,22,23,24,25,26,27,28,29,30,31,32,33,34,35,36]) :: k) ⟨[Z, .box [v1, .sl false 10 (pre.map (TObject.e false) ++ rest.map (TObject.e false))], .box c2, .box [v, .sl true 10 (pre.map (TObject.e true))], .d (.int .i64 i), Z, Z, Z, Z, Z, Z, Z, Z, Z, Z, Z, Z, Z, Z, Z, Z, Z, Z, Z, Z, Z, Z, Z, Z, Z, Z, Z, Z, Z, Z, Z, Z, Z], sto⟩ = bk T e k ⟨[Z, Z, .box c2, .box [v, .sl true 10 (pre.map (TObject.e true) ++ rest.map (TObject.e true))], Z, Z, Z, Z, Z, Z, Z, Z, Z, Z, Z, Z, Z, Z, Z, Z, Z, Z, Z, Z, Z, Z, Z, Z, Z, Z, Z, Z, Z, Z, Z, Z, Z, Z], sto⟩ := by
  intro rest
  induction rest with
  | nil =>
    intro pre i hi h1 h2
    have ht : i.toNat = pre.length := by omega
    have hl0 : ([] : List TObject).length = 0 := rfl
    unfold v186_m1
    simp (maxSteps := 9999999) (disch := omega) only [vx, px, ty, ↓reduceIte, Bool.false_eq_true, reduceCtorEq, Nat.reduceAdd, Nat.reduceSub, Nat.reduceLeDiff, Nat.reduceEqDiff, Nat.reduceLT, Nat.reduceMul, List.reduceReplicate, and_true, true_and, and_false, false_and, and_self, or_true, true_or, or_false, false_or, not_true_eq_false, not_false_eq_true, ne_eq, w186_1]
    try simp only [List.map_nil, List.append_nil]
  | cons x rest ih =>
    intro pre i hi h1 h2
    have ht : i.toNat = pre.length := by omega
    simp only [lsum_cons] at h2
    have h2' := h2
    try simp only [lsum_cons, TObject.n, TValue.n] at h2
    rw [List.length_cons] at h1
    have h := ih (pre ++ [x]) (i + 1) (by simp; omega) (by simp; omega) (by omega)
    simp only [map_snoc, List.map_append, List.map_cons, List.map_nil] at h
    simp only [List.append_assoc, List.cons_append, List.nil_append] at h
    unfold v186_m1
    simp (maxSteps := 9999999) (disch := omega) only [vx, px, ty, ↓reduceIte, Bool.false_eq_true, reduceCtorEq, Nat.reduceAdd, Nat.reduceSub, Nat.reduceLeDiff, Nat.reduceEqDiff, Nat.reduceLT, Nat.reduceMul, List.reduceReplicate, and_true, true_and, and_false, false_and, and_self, or_true, true_or, or_false, false_or, not_true_eq_false, not_false_eq_true, ne_eq, vxd, Nat.reduceBNe, w186_1, ht, ifT, most, List.map_cons, List.set_cons_zero]
    exact h
theorem c_l17Heap (x : THeap) (sto : List (List D)) (h : THeap.n x ≤ 1048576) : vcall T 186 [D.agg [D.int .i64 x.Next, D.sl false 10 (List.map (TObject.e false) x.Objects)]] sto = some (D.agg [D.int .i64 x.Next, D.sl true 10 (List.map (TObject.e true) x.Objects)], [], sto) := by
  simp only [THeap.n] at h
  rw [vcall_go T (g := v186) rfl rfl rfl _ _ rfl]
  simp (maxSteps := 9999999) (disch := omega) only [vx, px, ty, ↓reduceIte, Bool.false_eq_true, reduceCtorEq, Nat.reduceAdd, Nat.reduceSub, Nat.reduceLeDiff, Nat.reduceEqDiff, Nat.reduceLT, Nat.reduceMul, List.reduceReplicate, and_true, true_and, and_false, false_and, and_self, or_true, true_or, or_false, false_or, not_true_eq_false, not_false_eq_true, ne_eq, vxd, Nat.reduceBNe, most, ifT, v186, v186_b, w186_1]
  have h1 := fun k c2 v1 v => l_heapObjects (enF [.cell 2 (.many 2)] []) sto k c2 v1 v x.Objects [] 0 rfl (by simp; omega) (by omega)
  simp only [List.map_nil, List.nil_append] at h1
  rw [h1]
  simp (maxSteps := 9999999) (disch := omega) only [vx, px, ty, ↓reduceIte, Bool.false_eq_true, reduceCtorEq, Nat.reduceAdd, Nat.reduceSub, Nat.reduceLeDiff, Nat.reduceEqDiff, Nat.reduceLT, Nat.reduceMul, List.reduceReplicate, and_true, true_and, and_false, false_and, and_self, or_true, true_or, or_false, false_or, not_true_eq_false, not_false_eq_true, ne_eq, w186_1]
theorem l_consoleFiles {R : Type} (e : En R) (sto : List (List D)) (k : List Fr) (c2 : List D) (u1 u2 u3 u4 v1 v2 v3 v4 : D) : ∀ (rest pre : List TFile) (i : Int), i = pre.length → pre.length + rest.length ≤ 1048576 → lsum TFile.n rest ≤ 1048576 → 
    go T e v187_m1 (.lp v187_l1 :: .bl 0 :: .sq (.clr [0,1,4,5,6,7,8,9,10,11,12,13,14,15,16,17,18,19,20,21,22,23,24,25,26,27,28,29,30,31,32,33,34,35,36,37,38,39,40,41,42,43]) :: k) ⟨[Z, .box [u1, u2, u3, .sl false 4 (pre.map (TFile.e false) ++ rest.map (TFile.e false)), u4], .box c2, .box [v1, v2, v3, .sl true 4 (pre.map (TFile.e true)), v4], .d (.int .i64 i), Z, Z, Z, Z, Z, Z, Z, Z, Z, Z, Z, Z, Z, Z, Z, Z, Z, Z, Z, Z, Z, Z, Z, Z, Z, Z, Z, Z, Z, Z, Z, Z, Z, Z, Z, Z, Z, Z, Z, Z], sto⟩ = bk T e k ⟨[Z, Z, .box c2, .box [v1, v2, v3, .sl true 4 (pre.map (TFile.e true) ++ rest.map (TFile.e true)), v4], Z, Z, Z, Z, Z, Z, Z, Z, Z, Z, Z, Z, Z, Z, Z, Z, Z, Z, Z, Z, Z, Z, Z, Z, Z, Z, Z, Z, Z, Z, Z, Z, Z, Z, Z, Z, Z, Z, Z, Z, Z], sto⟩ := by
  intro rest
  induction rest with
  | nil =>
    intro pre i hi h1 h2
    have ht : i.toNat = pre.length := by omega
    have hl0 : ([] : List TFile).length = 0 := rfl
    unfold v187_m1
    simp (maxSteps := 9999999) (disch := omega) only [vx, px, ty, ↓reduceIte, Bool.false_eq_true, reduceCtorEq, Nat.reduceAdd, Nat.reduceSub, Nat.reduceLeDiff, Nat.reduceEqDiff, Nat.reduceLT, Nat.reduceMul, List.reduceReplicate, and_true, true_and, and_false, false_and, and_self, or_true, true_or, or_false, false_or, not_true_eq_false, not_false_eq_true, ne_eq, w187_1]
    try simp only [List.map_nil, List.append_nil]
  | cons x rest ih =>
    intro pre i hi h1 h2
    have ht : i.toNat = pre.length := by omega
    simp only [lsum_cons] at h2
    have h2' := h2
    try simp only [lsum_cons, TFile.n] at h2
    rw [List.length_cons] at h1
    have h := ih (pre ++ [x]) (i + 1) (by simp; omega) (by simp; omega) (by omega)
    simp only [map_snoc, List.map_append, List.map_cons, List.map_nil] at h
    simp only [List.append_assoc, List.cons_append, List.nil_append] at h
    unfold v187_m1
    simp (maxSteps := 9999999) (disch := omega) only [vx, px, ty, ↓reduceIte, Bool.false_eq_true, reduceCtorEq, Nat.reduceAdd, Nat.reduceSub, Nat.reduceLeDiff, Nat.reduceEqDiff, Nat.reduceLT, Nat.reduceMul, List.reduceReplicate, and_true, true_and, and_false, false_and, and_self, or_true, true_or, or_false, false_or, not_true_eq_false, not_false_eq_true, ne_eq, vxd, Nat.reduceBNe, w187_1, ht, ifT, most, List.map_cons, List.set_cons_zero]
    exact h
theorem c_l17Console (x : TConsole) (sto : List (List D)) (h : TConsole.n x ≤ 1048576) : vcall T 187 [D.agg [D.sl false 1 (List.map D.str x.Input), D.int .i64 x.At, D.sl false 1 (List.map D.str x.Output), D.sl false 4 (List.map (TFile.e false) x.Files), D.sl false 1 (List.map D.str x.Trace)]] sto = some (D.agg [D.sl true 1 (List.map D.str x.Input), D.int .i64 x.At, D.sl true 1 (List.map D.str x.Output), D.sl true 4 (List.map (TFile.e true) x.Files), D.sl true 1 (List.map D.str x.Trace)], [], sto) := by
  simp only [TConsole.n] at h
  rw [vcall_go T (g := v187) rfl rfl rfl _ _ rfl]
  simp (maxSteps := 9999999) (disch := omega) only [vx, px, ty, ↓reduceIte, Bool.false_eq_true, reduceCtorEq, Nat.reduceAdd, Nat.reduceSub, Nat.reduceLeDiff, Nat.reduceEqDiff, Nat.reduceLT, Nat.reduceMul, List.reduceReplicate, and_true, true_and, and_false, false_and, and_self, or_true, true_or, or_false, false_or, not_true_eq_false, not_false_eq_true, ne_eq, vxd, Nat.reduceBNe, most, ifT, v187, v187_b, w187_1]
  have h1 := fun k c2 u1 u2 u3 u4 v1 v2 v3 v4 => l_consoleFiles (enF [.cell 2 (.many 5)] []) sto k c2 u1 u2 u3 u4 v1 v2 v3 v4 x.Files [] 0 rfl (by simp; omega) (by omega)
  simp only [List.map_nil, List.nil_append] at h1
  rw [h1]
  simp (maxSteps := 9999999) (disch := omega) only [vx, px, ty, ↓reduceIte, Bool.false_eq_true, reduceCtorEq, Nat.reduceAdd, Nat.reduceSub, Nat.reduceLeDiff, Nat.reduceEqDiff, Nat.reduceLT, Nat.reduceMul, List.reduceReplicate, and_true, true_and, and_false, false_and, and_self, or_true, true_or, or_false, false_or, not_true_eq_false, not_false_eq_true, ne_eq, w187_1]
theorem c_l19Own (x : TMemory) (sto : List (List D)) (h : TMemory.n x ≤ 1048576) : vcall T 117 [D.agg [D.int .i64 x.Heap.Next, D.sl false 10 (List.map (TObject.e false) x.Heap.Objects), D.sl false 5 (List.map (TBinding.e false) x.Scope.Vars), D.sl false 4 (List.map (TFunction.e false) x.Scope.Functions), D.sl false 2 (List.map (TRecordType.e false) x.Scope.Types), D.sl false 1 (List.map D.str x.Console.Input), D.int .i64 x.Console.At, D.sl false 1 (List.map D.str x.Console.Output), D.sl false 4 (List.map (TFile.e false) x.Console.Files), D.sl false 1 (List.map D.str x.Console.Trace)]] sto = some (D.agg [D.int .i64 x.Heap.Next, D.sl true 10 (List.map (TObject.e true) x.Heap.Objects), D.sl true 5 (List.map (TBinding.e false) x.Scope.Vars), D.sl true 4 (List.map (TFunction.e true) x.Scope.Functions), D.sl true 2 (List.map (TRecordType.e true) x.Scope.Types), D.sl true 1 (List.map D.str x.Console.Input), D.int .i64 x.Console.At, D.sl true 1 (List.map D.str x.Console.Output), D.sl true 4 (List.map (TFile.e true) x.Console.Files), D.sl true 1 (List.map D.str x.Console.Trace)], [], sto) := by
  simp only [TMemory.n] at h
  rw [vcall_go T (g := v117) rfl rfl rfl _ _ rfl]
  simp (maxSteps := 9999999) (disch := omega) only [vx, px, ty, ↓reduceIte, Bool.false_eq_true, reduceCtorEq, Nat.reduceAdd, Nat.reduceSub, Nat.reduceLeDiff, Nat.reduceEqDiff, Nat.reduceLT, Nat.reduceMul, List.reduceReplicate, and_true, true_and, and_false, false_and, and_self, or_true, true_or, or_false, false_or, not_true_eq_false, not_false_eq_true, ne_eq, vxd, Nat.reduceBNe, most, ifT, v117, v117_b, c_l17Heap, c_l18Own, c_l17Console]
theorem c_spec_OutcomeOf (x : TMachine) (sto : List (List D)) (h : TMachine.n x ≤ 1048576) : vcall T 53 [D.agg [D.int .i64 x.Status, D.int .i64 x.Code, D.int .i64 x.Memory.Heap.Next, D.sl false 10 (List.map (TObject.e false) x.Memory.Heap.Objects), D.sl false 5 (List.map (TBinding.e false) x.Memory.Scope.Vars), D.sl false 4 (List.map (TFunction.e false) x.Memory.Scope.Functions), D.sl false 2 (List.map (TRecordType.e false) x.Memory.Scope.Types), D.sl false 1 (List.map D.str x.Memory.Console.Input), D.int .i64 x.Memory.Console.At, D.sl false 1 (List.map D.str x.Memory.Console.Output), D.sl false 4 (List.map (TFile.e false) x.Memory.Console.Files), D.sl false 1 (List.map D.str x.Memory.Console.Trace), D.sl false 4 (List.map (TValue.e false) x.Stack), D.sl false 5 (List.map (TCallFrame.e false) x.Frames), D.int .i64 x.PC, D.int .i64 x.Base, D.int .i64 x.At, D.int .i64 x.Steps, D.int .i64 x.Fuel]] sto = some (D.agg [D.int .i64 x.Memory.Heap.Next, D.sl true 10 (List.map (TObject.e true) x.Memory.Heap.Objects), D.sl true 5 (List.map (TBinding.e false) x.Memory.Scope.Vars), D.sl true 4 (List.map (TFunction.e true) x.Memory.Scope.Functions), D.sl true 2 (List.map (TRecordType.e true) x.Memory.Scope.Types), D.sl true 1 (List.map D.str x.Memory.Console.Input), D.int .i64 x.Memory.Console.At, D.sl true 1 (List.map D.str x.Memory.Console.Output), D.sl true 4 (List.map (TFile.e true) x.Memory.Console.Files), D.sl true 1 (List.map D.str x.Memory.Console.Trace), D.int .i64 x.At, D.int .i64 x.Steps, D.int .i64 x.Code], [], sto) := by
  simp only [TMachine.n] at h
  rw [vcall_go T (g := v53) rfl rfl rfl _ _ rfl]
  simp (maxSteps := 9999999) (disch := omega) only [vx, px, ty, ↓reduceIte, Bool.false_eq_true, reduceCtorEq, Nat.reduceAdd, Nat.reduceSub, Nat.reduceLeDiff, Nat.reduceEqDiff, Nat.reduceLT, Nat.reduceMul, List.reduceReplicate, and_true, true_and, and_false, false_and, and_self, or_true, true_or, or_false, false_or, not_true_eq_false, not_false_eq_true, ne_eq, vxd, Nat.reduceBNe, most, ifT, v53, v53_b, c_l19Own]
end Go.Vx.OcZ
