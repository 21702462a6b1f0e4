/-
  What the plain functions give, the program gives too.
-/

import Derived.Test.YthfkpkfcnnhkeaaGreatShA
set_option linter.unusedVariables false
set_option linter.unusedSimpArgs false
namespace Go.Vx.WrZ
set_option linter.unusedVariables false
set_option linter.unusedSimpArgs false
set_option maxRecDepth 10000
set_option maxHeartbeats 2000000
-- (impl.Scope).withRoots
noncomputable abbrev x_i_Scope_withRoots_l1 (s1 : List TValue) (s4 : TScope) (s10 : List TValue) (s11 : Int) (s5 : TScope) (s12 : Int) (k : List Fr) : Option Res := go T (enF [.cell 4 (.many 3)] []) v88_m1 (.lp v88_l1 :: .bl 0 :: .sq (.clr [0,2,6,7,8,9,10,11,12,13,14,15,16,17,18,19,20,21,22,23]) :: k) ⟨[Z, .d (D.sl false 4 (List.map (TValue.e false) s1)), Z, Z, .box [D.sl true 5 (List.map (TBinding.e false) s4.Vars), D.sl true 4 (List.map (TFunction.e true) s4.Functions), D.sl true 2 (List.map (TRecordType.e true) s4.Types)], .box [D.sl true 5 (List.map (TBinding.e false) s5.Vars), D.sl true 4 (List.map (TFunction.e true) s5.Functions), D.sl true 2 (List.map (TRecordType.e true) s5.Types)], Z, Z, Z, Z, .d (D.sl false 4 (List.map (TValue.e false) s10)), .d (D.int .i64 s11), .d (D.int .i64 s12), Z, Z, Z, Z, Z, Z, Z, Z, Z, Z, Z, Z], []⟩
noncomputable abbrev q_i_Scope_withRoots_l1 (s1 : List TValue) (s4 : TScope) (s10 : List TValue) (s11 : Int) (k : List Fr) (t : TScope) : Option Res := bk T (enF [.cell 4 (.many 3)] []) k ⟨[Z, .d (D.sl false 4 (List.map (TValue.e false) s1)), Z, Z, .box [D.sl true 5 (List.map (TBinding.e false) s4.Vars), D.sl true 4 (List.map (TFunction.e true) s4.Functions), D.sl true 2 (List.map (TRecordType.e true) s4.Types)], .box [D.sl true 5 (List.map (TBinding.e false) t.Vars), D.sl true 4 (List.map (TFunction.e true) t.Functions), D.sl true 2 (List.map (TRecordType.e true) t.Types)], Z, Z, Z, Z, Z, Z, Z, Z, Z, Z, Z, Z, Z, Z, Z, Z, Z, Z, Z], []⟩
theorem p_i_Scope_withRoots_l1 (s1 : List TValue) (s4 : TScope) (s10 : List TValue) (s11 : Int) : ∀ (s5 : TScope) (s12 : Int) (k : List Fr), Le (q_i_Scope_withRoots_l1 s1 s4 s10 s11 k) (i_Scope_withRoots_l1 s1 s4 s10 s11 s5 s12) (x_i_Scope_withRoots_l1 s1 s4 s10 s11 s5 s12 k) := by
  intro s5 s12 k
  refine Le.cp (X := x_i_Scope_withRoots_l1 s1 s4 s10 s11 s5 s12) (Q := q_i_Scope_withRoots_l1 s1 s4 s10 s11) ?_ k
  refine i_Scope_withRoots_l1.partial_correctness s1 s4 s10 s11 (motive := fun s5 s12 r => ∀ k : List Fr, x_i_Scope_withRoots_l1 s1 s4 s10 s11 s5 s12 k = q_i_Scope_withRoots_l1 s1 s4 s10 s11 k r) ?_ s5 s12
  intro rec hrec s5 s12
  refine Le.pc ?_
  intro k
  unfold x_i_Scope_withRoots_l1 v88_m1
  try conv => arg 3; simp (maxSteps := 999999) only [sx, ty, ↓reduceIte, reduceCtorEq, Nat.reduceAdd, Nat.reduceSub, Nat.reduceLeDiff, Nat.reduceEqDiff, Nat.reduceLT, Nat.reduceMul, Nat.reduceBNe, List.reduceReplicate, Int.reduceLE, Int.reduceLT, Int.reduceEq, Int.reduceToNat, Int.reduceNeg, *, w88_1]
  refine Le.itq (fun h => ?_) (fun h => ?_)
  · try conv => arg 3; simp (maxSteps := 999999) only [sx, ty, ↓reduceIte, reduceCtorEq, Nat.reduceAdd, Nat.reduceSub, Nat.reduceLeDiff, Nat.reduceEqDiff, Nat.reduceLT, Nat.reduceMul, Nat.reduceBNe, List.reduceReplicate, Int.reduceLE, Int.reduceLT, Int.reduceEq, Int.reduceToNat, Int.reduceNeg, *, w88_1]
    refine Le.idx fun a15 h_1 h_2 h_3 => ?_
    try conv => arg 3; simp (maxSteps := 999999) only [sx, ty, ↓reduceIte, reduceCtorEq, Nat.reduceAdd, Nat.reduceSub, Nat.reduceLeDiff, Nat.reduceEqDiff, Nat.reduceLT, Nat.reduceMul, Nat.reduceBNe, List.reduceReplicate, Int.reduceLE, Int.reduceLT, Int.reduceEq, Int.reduceToNat, Int.reduceNeg, *, w88_1]
    refine Le.idx fun a21 h_4 h_5 h_6 => ?_
    try conv => arg 3; simp (maxSteps := 999999) only [sx, ty, ↓reduceIte, reduceCtorEq, Nat.reduceAdd, Nat.reduceSub, Nat.reduceLeDiff, Nat.reduceEqDiff, Nat.reduceLT, Nat.reduceMul, Nat.reduceBNe, List.reduceReplicate, Int.reduceLE, Int.reduceLT, Int.reduceEq, Int.reduceToNat, Int.reduceNeg, *, w88_1]
    have f : List.set (List.map (TBinding.e false) s5.Vars) s12.toNat (D.agg [D.str a21.Name, D.int .i64 a15.Kind, D.int .i64 a15.Num, D.str a15.Text, D.int .i64 a15.Ref]) = List.map (TBinding.e false) (setN s5.Vars s12.toNat (TBinding.mk a21.Name a15)) := map_set_fold _ _ _ _ rfl
    try conv => arg 3; simp (maxSteps := 999999) only [sx, ty, ↓reduceIte, reduceCtorEq, Nat.reduceAdd, Nat.reduceSub, Nat.reduceLeDiff, Nat.reduceEqDiff, Nat.reduceLT, Nat.reduceMul, Nat.reduceBNe, List.reduceReplicate, Int.reduceLE, Int.reduceLT, Int.reduceEq, Int.reduceToNat, Int.reduceNeg, *, w88_1]
    exact fun r hr => hrec _ _ r hr k
  · try conv => arg 3; simp (maxSteps := 999999) only [sx, ty, ↓reduceIte, reduceCtorEq, Nat.reduceAdd, Nat.reduceSub, Nat.reduceLeDiff, Nat.reduceEqDiff, Nat.reduceLT, Nat.reduceMul, Nat.reduceBNe, List.reduceReplicate, Int.reduceLE, Int.reduceLT, Int.reduceEq, Int.reduceToNat, Int.reduceNeg, *, w88_1]
    ((with_reducible refine Le.ret ?_); exact rfl)

theorem g_i_Scope_withRoots (p0 : TScope) (p1 : List TValue) : Le (fun r => some (D.agg [D.sl true 5 (List.map (TBinding.e false) r.Vars), D.sl true 4 (List.map (TFunction.e true) r.Functions), D.sl true 2 (List.map (TRecordType.e true) r.Types)], [], [])) (i_Scope_withRoots p0 p1) (vcall T 88 [D.agg [D.sl false 5 (List.map (TBinding.e false) p0.Vars), D.sl false 4 (List.map (TFunction.e false) p0.Functions), D.sl false 2 (List.map (TRecordType.e false) p0.Types)], D.sl false 4 (List.map (TValue.e false) p1)] []) := by
  unfold i_Scope_withRoots
  refine Le.enter (g := v88) rfl rfl rfl rfl ?_
  repeat' (try conv => arg 3; simp (maxSteps := 999999) only [sx, ty, ↓reduceIte, reduceCtorEq, Nat.reduceAdd, Nat.reduceSub, Nat.reduceLeDiff, Nat.reduceEqDiff, Nat.reduceLT, Nat.reduceMul, Nat.reduceBNe, List.reduceReplicate, Int.reduceLE, Int.reduceLT, Int.reduceEq, Int.reduceToNat, Int.reduceNeg, *, w88_1, v88, v88_b]); first
    | refine Le.call (g_i_Scope_copied _) fun _ _ => ?_
    | (refine Le.via (p_i_Scope_withRoots_l1 _ _ _ _ _ _ _) fun _ _ => ?_; try dsimp only [q_i_Scope_withRoots_l1])
    | ((with_reducible refine Le.ret ?_); exact rfl)

-- impl.WithRoots
noncomputable abbrev x_i_WithRoots_j1 (s1 : List TValue) (s2 : TScope) (s4 : TScope) (k : List Fr) : Option Res := go T (enF [.cell 4 (.many 3), .tmp 5] []) v32_j1 k ⟨[Z, .d (D.sl false 4 (List.map (TValue.e false) s1)), .box [D.sl false 5 (List.map (TBinding.e false) s2.Vars), D.sl false 4 (List.map (TFunction.e false) s2.Functions), D.sl false 2 (List.map (TRecordType.e false) s2.Types)], Z, .box [D.sl true 5 (List.map (TBinding.e false) s4.Vars), D.sl true 4 (List.map (TFunction.e true) s4.Functions), D.sl true 2 (List.map (TRecordType.e true) s4.Types)], Z, Z, Z, Z, Z, Z, Z, Z, Z, Z, Z, Z, Z, Z, Z, Z, Z, Z, Z, Z, Z, Z], []⟩
noncomputable abbrev q_i_WithRoots_j1 (s1 : List TValue) (s2 : TScope) (s4 : TScope) (k : List Fr) (t : (TScope × Bool)) : Option Res := some (D.tup [D.agg [D.sl true 5 (List.map (TBinding.e false) t.1.Vars), D.sl true 4 (List.map (TFunction.e true) t.1.Functions), D.sl true 2 (List.map (TRecordType.e true) t.1.Types)], D.bool t.2], [], [])
theorem p_i_WithRoots_j1 (s1 : List TValue) (s2 : TScope) (s4 : TScope) (k : List Fr) : Le (q_i_WithRoots_j1 s1 s2 s4 k) (i_WithRoots_j1 s1 s2 s4) (x_i_WithRoots_j1 s1 s2 s4 k) := by
  unfold i_WithRoots_j1 x_i_WithRoots_j1 v32_j1
  repeat' (try conv => arg 3; simp (maxSteps := 999999) only [sx, ty, ↓reduceIte, reduceCtorEq, Nat.reduceAdd, Nat.reduceSub, Nat.reduceLeDiff, Nat.reduceEqDiff, Nat.reduceLT, Nat.reduceMul, Nat.reduceBNe, List.reduceReplicate, Int.reduceLE, Int.reduceLT, Int.reduceEq, Int.reduceToNat, Int.reduceNeg, *]); first
    | refine Le.call (g_i_Scope_withRoots _ _) fun _ _ => ?_
    | refine Le.call (g_i_ValidScope _) fun _ _ => ?_
    | with_reducible refine Le.bool (fun _ => ?_) (fun _ => ?_)
    | ((with_reducible refine Le.ret ?_); exact rfl)

theorem g_i_WithRoots (p0 : TScope) (p1 : List TValue) : Le (fun r => some (D.tup [D.agg [D.sl true 5 (List.map (TBinding.e false) r.1.Vars), D.sl true 4 (List.map (TFunction.e true) r.1.Functions), D.sl true 2 (List.map (TRecordType.e true) r.1.Types)], D.bool r.2], [], [])) (i_WithRoots p0 p1) (vcall T 32 [D.agg [D.sl false 5 (List.map (TBinding.e false) p0.Vars), D.sl false 4 (List.map (TFunction.e false) p0.Functions), D.sl false 2 (List.map (TRecordType.e false) p0.Types)], D.sl false 4 (List.map (TValue.e false) p1)] []) := by
  unfold i_WithRoots
  refine Le.enter (g := v32) rfl rfl rfl rfl ?_
  repeat' (try conv => arg 3; simp (maxSteps := 999999) only [sx, ty, ↓reduceIte, reduceCtorEq, Nat.reduceAdd, Nat.reduceSub, Nat.reduceLeDiff, Nat.reduceEqDiff, Nat.reduceLT, Nat.reduceMul, Nat.reduceBNe, List.reduceReplicate, Int.reduceLE, Int.reduceLT, Int.reduceEq, Int.reduceToNat, Int.reduceNeg, *, v32, v32_b]); first
    | refine Le.call (g_i_ValidScope _) fun _ _ => ?_
    | exact p_i_WithRoots_j1 _ _ _ _
    | with_reducible refine Le.bool (fun _ => ?_) (fun _ => ?_)
    | ((with_reducible refine Le.ret ?_); exact rfl)
    | with_reducible refine Le.itq (fun _ => ?_) (fun _ => ?_)

end Go.Vx.WrZ
