/-
  What the plain functions give, the program gives too.
-/

import Derived.Test.YthfkpkfcnnhkeaaGreatCode
import Derived.Test.YthfkpkfcnnhkeaaGreatDef
set_option linter.unusedVariables false
set_option linter.unusedSimpArgs false
namespace Go.Vx.FuZ
set_option linter.unusedVariables false
set_option linter.unusedSimpArgs false
set_option maxRecDepth 10000
set_option maxHeartbeats 2000000
-- spec.l18Find
noncomputable abbrev x_s_l18Find_l1 (s1 : ByteArray) (s2 : TScope) (s5 : Int) (k : List Fr) : Option Res := go T (enF [.tmp 4] []) v82_m1 (.lp v82_l1 :: .bl 0 :: .sq (.clr [0,2,4,5,6,7,8,9,10,11,12,13,14,15,16,17,18,19,20,21]) :: k) ⟨[Z, .d (D.str s1), .box [D.sl false 5 (List.map (TBinding.e false) s2.Vars), D.sl false 4 (List.map (TFunction.e false) s2.Functions), D.sl false 2 (List.map (TRecordType.e false) s2.Types)], Z, Z, .d (D.int .i64 s5), Z, Z, Z, Z, Z, Z, Z, Z, Z, Z, Z, Z, Z, Z, Z, Z], []⟩
noncomputable abbrev q_s_l18Find_l1 (s1 : ByteArray) (s2 : TScope) (k : List Fr) (t : (Unit ⊕ Int)) : Option Res := match t with | .inl t => bk T (enF [.tmp 4] []) k ⟨[Z, .d (D.str s1), Z, Z, Z, Z, Z, Z, Z, Z, Z, Z, Z, Z, Z, Z, Z, Z, Z, Z, Z, Z], []⟩ | .inr t => some (D.int .i64 t, [], [])
theorem p_s_l18Find_l1 (s1 : ByteArray) (s2 : TScope) : ∀ (s5 : Int) (k : List Fr), Le (q_s_l18Find_l1 s1 s2 k) (s_l18Find_l1 s1 s2 s5) (x_s_l18Find_l1 s1 s2 s5 k) := by
  intro s5 k
  refine Le.cp (X := x_s_l18Find_l1 s1 s2 s5) (Q := q_s_l18Find_l1 s1 s2) ?_ k
  refine s_l18Find_l1.partial_correctness s1 s2 (motive := fun s5 r => ∀ k : List Fr, x_s_l18Find_l1 s1 s2 s5 k = q_s_l18Find_l1 s1 s2 k r) ?_ s5
  intro rec hrec s5
  refine Le.pc ?_
  intro k
  unfold x_s_l18Find_l1 v82_m1
  repeat' (try conv => arg 3; simp (maxSteps := 999999) only [sx, ty, ↓reduceIte, reduceCtorEq, Nat.reduceAdd, Nat.reduceSub, Nat.reduceLeDiff, Nat.reduceEqDiff, Nat.reduceLT, Nat.reduceMul, Nat.reduceBNe, List.reduceReplicate, Int.reduceLE, Int.reduceLT, Int.reduceEq, Int.reduceToNat, Int.reduceNeg, *, w82_1]); first
    | with_reducible refine Le.idx fun _ _ _ _ => ?_
    | ((with_reducible refine Le.ret ?_); exact rfl)
    | with_reducible refine Le.itq (fun _ => ?_) (fun _ => ?_)
    | exact fun r hr => hrec _ r hr k

theorem g_s_l18Find (p0 : TScope) (p1 : ByteArray) : Le (fun r => some (D.int .i64 r, [], [])) (s_l18Find p0 p1) (vcall T 82 [D.agg [D.sl false 5 (List.map (TBinding.e false) p0.Vars), D.sl false 4 (List.map (TFunction.e false) p0.Functions), D.sl false 2 (List.map (TRecordType.e false) p0.Types)], D.str p1] []) := by
  unfold s_l18Find
  refine Le.enter (g := v82) rfl rfl rfl rfl ?_
  repeat' (try conv => arg 3; simp (maxSteps := 999999) only [sx, ty, ↓reduceIte, reduceCtorEq, Nat.reduceAdd, Nat.reduceSub, Nat.reduceLeDiff, Nat.reduceEqDiff, Nat.reduceLT, Nat.reduceMul, Nat.reduceBNe, List.reduceReplicate, Int.reduceLE, Int.reduceLT, Int.reduceEq, Int.reduceToNat, Int.reduceNeg, *, w82_1, v82, v82_b]); first
    | (refine Le.via (p_s_l18Find_l1 _ _ _ _) fun t _ => ?_; rcases t with t | t <;> try dsimp only [q_s_l18Find_l1])
    | ((with_reducible refine Le.ret ?_); exact rfl)

-- spec.l02Letter
theorem g_s_l02Letter (p0 : Int) : Le (fun r => some (D.bool r, [], [])) (s_l02Letter p0) (vcall T 205 [D.int .u8 p0] []) := by
  unfold s_l02Letter
  refine Le.enter (g := v205) rfl rfl rfl rfl ?_
  repeat' (try conv => arg 3; simp (maxSteps := 999999) only [sx, ty, ↓reduceIte, reduceCtorEq, Nat.reduceAdd, Nat.reduceSub, Nat.reduceLeDiff, Nat.reduceEqDiff, Nat.reduceLT, Nat.reduceMul, Nat.reduceBNe, List.reduceReplicate, Int.reduceLE, Int.reduceLT, Int.reduceEq, Int.reduceToNat, Int.reduceNeg, *, v205, v205_b]); first
    | ((with_reducible refine Le.ret ?_); exact rfl)
    | with_reducible refine Le.itq (fun _ => ?_) (fun _ => ?_)

-- spec.l02Digit
theorem g_s_l02Digit (p0 : Int) : Le (fun r => some (D.bool r, [], [])) (s_l02Digit p0) (vcall T 206 [D.int .u8 p0] []) := by
  unfold s_l02Digit
  refine Le.enter (g := v206) rfl rfl rfl rfl ?_
  repeat' (try conv => arg 3; simp (maxSteps := 999999) only [sx, ty, ↓reduceIte, reduceCtorEq, Nat.reduceAdd, Nat.reduceSub, Nat.reduceLeDiff, Nat.reduceEqDiff, Nat.reduceLT, Nat.reduceMul, Nat.reduceBNe, List.reduceReplicate, Int.reduceLE, Int.reduceLT, Int.reduceEq, Int.reduceToNat, Int.reduceNeg, *, v206, v206_b]); first
    | ((with_reducible refine Le.ret ?_); exact rfl)
    | with_reducible refine Le.itq (fun _ => ?_) (fun _ => ?_)

-- spec.l02NameEnd
noncomputable abbrev x_s_l02NameEnd_l1 (s0 : ByteArray) (s1 : Int) (k : List Fr) : Option Res := go T (enF [.tmp 4] []) v141_m1 (.lp v141_l1 :: .bl 0 :: .sq (.clr [4,5,6,7,8,9,10,11,12,13,14,15,16,17,18,19,20,21,22,23,24,25,26,27,28,29,30,31,32,33,34,35,36,37,38,39,40]) :: k) ⟨[.d (D.str s0), .d (D.int .i64 s1), Z, Z, Z, Z, Z, Z, Z, Z, Z, Z, Z, Z, Z, Z, Z, Z, Z, Z, Z, Z, Z, Z, Z, Z, Z, Z, Z, Z, Z, Z, Z, Z, Z, Z, Z, Z, Z, Z, Z, Z], []⟩
noncomputable abbrev q_s_l02NameEnd_l1 (s0 : ByteArray) (k : List Fr) (t : Int) : Option Res := bk T (enF [.tmp 4] []) k ⟨[.d (D.str s0), .d (D.int .i64 t), Z, Z, Z, Z, Z, Z, Z, Z, Z, Z, Z, Z, Z, Z, Z, Z, Z, Z, Z, Z, Z, Z, Z, Z, Z, Z, Z, Z, Z, Z, Z, Z, Z, Z, Z, Z, Z, Z, Z, Z], []⟩
theorem p_s_l02NameEnd_l1 (s0 : ByteArray) : ∀ (s1 : Int) (k : List Fr), Le (q_s_l02NameEnd_l1 s0 k) (s_l02NameEnd_l1 s0 s1) (x_s_l02NameEnd_l1 s0 s1 k) := by
  intro s1 k
  refine Le.cp (X := x_s_l02NameEnd_l1 s0 s1) (Q := q_s_l02NameEnd_l1 s0) ?_ k
  refine s_l02NameEnd_l1.partial_correctness s0 (motive := fun s1 r => ∀ k : List Fr, x_s_l02NameEnd_l1 s0 s1 k = q_s_l02NameEnd_l1 s0 k r) ?_ s1
  intro rec hrec s1
  refine Le.pc ?_
  intro k
  unfold x_s_l02NameEnd_l1 v141_m1
  repeat' (try conv => arg 3; simp (maxSteps := 999999) only [sx, ty, ↓reduceIte, reduceCtorEq, Nat.reduceAdd, Nat.reduceSub, Nat.reduceLeDiff, Nat.reduceEqDiff, Nat.reduceLT, Nat.reduceMul, Nat.reduceBNe, List.reduceReplicate, Int.reduceLE, Int.reduceLT, Int.reduceEq, Int.reduceToNat, Int.reduceNeg, *, w141_1]); first
    | refine Le.call (g_s_l02Letter _) fun _ _ => ?_
    | refine Le.call (g_s_l02Digit _) fun _ _ => ?_
    | with_reducible refine Le.idxB fun _ _ _ _ => ?_
    | with_reducible refine Le.bool (fun _ => ?_) (fun _ => ?_)
    | ((with_reducible refine Le.ret ?_); exact rfl)
    | with_reducible refine Le.itq (fun _ => ?_) (fun _ => ?_)
    | exact fun r hr => hrec _ r hr k

noncomputable abbrev x_s_l02NameEnd_j1 (s0 : ByteArray) (s1 : Int) (k : List Fr) : Option Res := go T (enF [.tmp 4] []) v141_j1 k ⟨[.d (D.str s0), .d (D.int .i64 s1), Z, Z, Z, Z, Z, Z, Z, Z, Z, Z, Z, Z, Z, Z, Z, Z, Z, Z, Z, Z, Z, Z, Z, Z, Z, Z, Z, Z, Z, Z, Z, Z, Z, Z, Z, Z, Z, Z, Z, Z], []⟩
noncomputable abbrev q_s_l02NameEnd_j1 (s0 : ByteArray) (s1 : Int) (k : List Fr) (t : Int) : Option Res := some (D.int .i64 t, [], [])
theorem p_s_l02NameEnd_j1 (s0 : ByteArray) (s1 : Int) (k : List Fr) : Le (q_s_l02NameEnd_j1 s0 s1 k) (s_l02NameEnd_j1 s0 s1) (x_s_l02NameEnd_j1 s0 s1 k) := by
  unfold s_l02NameEnd_j1 x_s_l02NameEnd_j1 v141_j1
  repeat' (try conv => arg 3; simp (maxSteps := 999999) only [sx, ty, ↓reduceIte, reduceCtorEq, Nat.reduceAdd, Nat.reduceSub, Nat.reduceLeDiff, Nat.reduceEqDiff, Nat.reduceLT, Nat.reduceMul, Nat.reduceBNe, List.reduceReplicate, Int.reduceLE, Int.reduceLT, Int.reduceEq, Int.reduceToNat, Int.reduceNeg, *, w141_1]); first
    | (refine Le.via (p_s_l02NameEnd_l1 _ _ _) fun _ _ => ?_; try dsimp only [q_s_l02NameEnd_l1])
    | ((with_reducible refine Le.ret ?_); exact rfl)

theorem g_s_l02NameEnd (p0 : ByteArray) (p1 : Int) : Le (fun r => some (D.int .i64 r, [], [])) (s_l02NameEnd p0 p1) (vcall T 141 [D.str p0, D.int .i64 p1] []) := by
  unfold s_l02NameEnd
  refine Le.enter (g := v141) rfl rfl rfl rfl ?_
  repeat' (try conv => arg 3; simp (maxSteps := 999999) only [sx, ty, ↓reduceIte, reduceCtorEq, Nat.reduceAdd, Nat.reduceSub, Nat.reduceLeDiff, Nat.reduceEqDiff, Nat.reduceLT, Nat.reduceMul, Nat.reduceBNe, List.reduceReplicate, Int.reduceLE, Int.reduceLT, Int.reduceEq, Int.reduceToNat, Int.reduceNeg, *, w141_1, v141, v141_b]); first
    | refine Le.call (g_s_l02Letter _) fun _ _ => ?_
    | exact p_s_l02NameEnd_j1 _ _ _
    | ((with_reducible refine Le.ret ?_); exact rfl)
    | with_reducible refine Le.idxB fun _ _ _ _ => ?_
    | with_reducible refine Le.bool (fun _ => ?_) (fun _ => ?_)
    | with_reducible refine Le.itq (fun _ => ?_) (fun _ => ?_)

-- spec.IsName
theorem g_s_IsName (p0 : ByteArray) : Le (fun r => some (D.bool r, [], [])) (s_IsName p0) (vcall T 68 [D.str p0] []) := by
  unfold s_IsName
  refine Le.enter (g := v68) rfl rfl rfl rfl ?_
  repeat' (try conv => arg 3; simp (maxSteps := 999999) only [sx, ty, ↓reduceIte, reduceCtorEq, Nat.reduceAdd, Nat.reduceSub, Nat.reduceLeDiff, Nat.reduceEqDiff, Nat.reduceLT, Nat.reduceMul, Nat.reduceBNe, List.reduceReplicate, Int.reduceLE, Int.reduceLT, Int.reduceEq, Int.reduceToNat, Int.reduceNeg, *, v68, v68_b]); first
    | refine Le.call (g_s_l02NameEnd _ _) fun _ _ => ?_
    | ((with_reducible refine Le.ret ?_); exact rfl)
    | with_reducible refine Le.itq (fun _ => ?_) (fun _ => ?_)

-- spec.l06Plain
theorem g_s_l06Plain (p0 : TValue) (p1 : Bool) (p2 : Bool) (p3 : Bool) : Le (fun r => some (D.bool r, [], [])) (s_l06Plain p0 p1 p2 p3) (vcall T 176 [D.agg [D.int .i64 p0.Kind, D.int .i64 p0.Num, D.str p0.Text, D.int .i64 p0.Ref], D.bool p1, D.bool p2, D.bool p3] []) := by
  unfold s_l06Plain
  refine Le.enter (g := v176) rfl rfl rfl rfl ?_
  repeat' (try conv => arg 3; simp (maxSteps := 999999) only [sx, ty, ↓reduceIte, reduceCtorEq, Nat.reduceAdd, Nat.reduceSub, Nat.reduceLeDiff, Nat.reduceEqDiff, Nat.reduceLT, Nat.reduceMul, Nat.reduceBNe, List.reduceReplicate, Int.reduceLE, Int.reduceLT, Int.reduceEq, Int.reduceToNat, Int.reduceNeg, *, v176, v176_b]); first
    | with_reducible refine Le.bool (fun _ => ?_) (fun _ => ?_)
    | ((with_reducible refine Le.ret ?_); exact rfl)
    | with_reducible refine Le.itq (fun _ => ?_) (fun _ => ?_)

-- spec.l00In
theorem g_s_l00In (p0 : Int) (p1 : Int) (p2 : Int) : Le (fun r => some (D.bool r, [], [])) (s_l00In p0 p1 p2) (vcall T 177 [D.int .i64 p0, D.int .i64 p1, D.int .i64 p2] []) := by
  unfold s_l00In
  refine Le.enter (g := v177) rfl rfl rfl rfl ?_
  repeat' (try conv => arg 3; simp (maxSteps := 999999) only [sx, ty, ↓reduceIte, reduceCtorEq, Nat.reduceAdd, Nat.reduceSub, Nat.reduceLeDiff, Nat.reduceEqDiff, Nat.reduceLT, Nat.reduceMul, Nat.reduceBNe, List.reduceReplicate, Int.reduceLE, Int.reduceLT, Int.reduceEq, Int.reduceToNat, Int.reduceNeg, *, v177, v177_b]); first
    | ((with_reducible refine Le.ret ?_); exact rfl)
    | with_reducible refine Le.itq (fun _ => ?_) (fun _ => ?_)

-- spec.ValidValue
noncomputable abbrev x_s_ValidValue_j1 (s1 : TValue) (s45 : Bool) (k : List Fr) : Option Res := go T (enF [.tmp 2] []) v108_j1 k ⟨[Z, .box [D.int .i64 s1.Kind, D.int .i64 s1.Num, D.str s1.Text, D.int .i64 s1.Ref], Z, Z, Z, Z, Z, Z, Z, Z, Z, Z, Z, Z, Z, Z, Z, Z, Z, Z, Z, Z, Z, Z, Z, Z, Z, Z, Z, Z, Z, Z, Z, Z, Z, Z, Z, Z, Z, Z, Z, Z, Z, Z, Z, .d (D.bool s45), Z, Z, Z, Z, Z, Z, Z, Z, Z], []⟩
noncomputable abbrev q_s_ValidValue_j1 (s1 : TValue) (s45 : Bool) (k : List Fr) (t : (Bool ⊕ Bool)) : Option Res := match t with | .inl t => bk T (enF [.tmp 2] []) k ⟨[Z, .box [D.int .i64 s1.Kind, D.int .i64 s1.Num, D.str s1.Text, D.int .i64 s1.Ref], Z, Z, Z, Z, Z, Z, Z, Z, Z, Z, Z, Z, Z, Z, Z, Z, Z, Z, Z, Z, Z, Z, Z, Z, Z, Z, Z, Z, Z, Z, Z, Z, Z, Z, Z, Z, Z, Z, Z, Z, Z, Z, Z, .d (D.bool t), Z, Z, Z, Z, Z, Z, Z, Z, Z], []⟩ | .inr t => some (D.bool t, [], [])
theorem p_s_ValidValue_j1 (s1 : TValue) (s45 : Bool) (k : List Fr) : Le (q_s_ValidValue_j1 s1 s45 k) (s_ValidValue_j1 s1 s45) (x_s_ValidValue_j1 s1 s45 k) := by
  unfold s_ValidValue_j1 x_s_ValidValue_j1 v108_j1
  repeat' (try conv => arg 3; simp (maxSteps := 999999) only [sx, ty, ↓reduceIte, reduceCtorEq, Nat.reduceAdd, Nat.reduceSub, Nat.reduceLeDiff, Nat.reduceEqDiff, Nat.reduceLT, Nat.reduceMul, Nat.reduceBNe, List.reduceReplicate, Int.reduceLE, Int.reduceLT, Int.reduceEq, Int.reduceToNat, Int.reduceNeg, *]); first
    | refine Le.call (g_s_l06Plain _ _ _ _) fun _ _ => ?_
    | refine Le.call (g_s_IsName _) fun _ _ => ?_
    | with_reducible refine Le.bool (fun _ => ?_) (fun _ => ?_)
    | ((with_reducible refine Le.ret ?_); exact rfl)

noncomputable abbrev x_s_ValidValue_j2 (s1 : TValue) (s4 : Int) (s34 : Bool) (k : List Fr) : Option Res := go T (enF [.tmp 2] []) v108_j2 k ⟨[Z, .box [D.int .i64 s1.Kind, D.int .i64 s1.Num, D.str s1.Text, D.int .i64 s1.Ref], Z, Z, .d (D.int .i64 s4), Z, Z, Z, Z, Z, Z, Z, Z, Z, Z, Z, Z, Z, Z, Z, Z, Z, Z, Z, Z, Z, Z, Z, Z, Z, Z, Z, Z, Z, .d (D.bool s34), Z, Z, Z, Z, Z, Z, Z, Z, Z, Z, Z, Z, Z, Z, Z, Z, Z, Z, Z, Z], []⟩
noncomputable abbrev q_s_ValidValue_j2 (s1 : TValue) (s4 : Int) (s34 : Bool) (k : List Fr) (t : (Bool ⊕ Bool)) : Option Res := match t with | .inl t => bk T (enF [.tmp 2] []) k ⟨[Z, .box [D.int .i64 s1.Kind, D.int .i64 s1.Num, D.str s1.Text, D.int .i64 s1.Ref], Z, Z, Z, Z, Z, Z, Z, Z, Z, Z, Z, Z, Z, Z, Z, Z, Z, Z, Z, Z, Z, Z, Z, Z, Z, Z, Z, Z, Z, Z, Z, Z, Z, Z, Z, Z, Z, Z, Z, Z, Z, Z, Z, .d (D.bool t), Z, Z, Z, Z, Z, Z, Z, Z, Z], []⟩ | .inr t => some (D.bool t, [], [])
theorem p_s_ValidValue_j2 (s1 : TValue) (s4 : Int) (s34 : Bool) (k : List Fr) : Le (q_s_ValidValue_j2 s1 s4 s34 k) (s_ValidValue_j2 s1 s4 s34) (x_s_ValidValue_j2 s1 s4 s34 k) := by
  unfold s_ValidValue_j2 x_s_ValidValue_j2 v108_j2
  repeat' (try conv => arg 3; simp (maxSteps := 999999) only [sx, ty, ↓reduceIte, reduceCtorEq, Nat.reduceAdd, Nat.reduceSub, Nat.reduceLeDiff, Nat.reduceEqDiff, Nat.reduceLT, Nat.reduceMul, Nat.reduceBNe, List.reduceReplicate, Int.reduceLE, Int.reduceLT, Int.reduceEq, Int.reduceToNat, Int.reduceNeg, *]); first
    | refine Le.call (g_s_l06Plain _ _ _ _) fun _ _ => ?_
    | refine Le.call (g_s_l00In _ _ _) fun _ _ => ?_
    | (refine Le.via (p_s_ValidValue_j1 _ _ _) fun t _ => ?_; rcases t with t | t <;> try dsimp only [q_s_ValidValue_j1])
    | with_reducible refine Le.bool (fun _ => ?_) (fun _ => ?_)
    | ((with_reducible refine Le.ret ?_); exact rfl)
    | with_reducible refine Le.itq (fun _ => ?_) (fun _ => ?_)

theorem g_s_ValidValue (p0 : TValue) : Le (fun r => some (D.bool r, [], [])) (s_ValidValue p0) (vcall T 108 [D.agg [D.int .i64 p0.Kind, D.int .i64 p0.Num, D.str p0.Text, D.int .i64 p0.Ref]] []) := by
  unfold s_ValidValue
  refine Le.enter (g := v108) rfl rfl rfl rfl ?_
  repeat' (try conv => arg 3; simp (maxSteps := 999999) only [sx, ty, ↓reduceIte, reduceCtorEq, Nat.reduceAdd, Nat.reduceSub, Nat.reduceLeDiff, Nat.reduceEqDiff, Nat.reduceLT, Nat.reduceMul, Nat.reduceBNe, List.reduceReplicate, Int.reduceLE, Int.reduceLT, Int.reduceEq, Int.reduceToNat, Int.reduceNeg, *, v108, v108_b]); first
    | refine Le.call (g_s_l06Plain _ _ _ _) fun _ _ => ?_
    | refine Le.call (g_s_l00In _ _ _) fun _ _ => ?_
    | (refine Le.via (p_s_ValidValue_j2 _ _ _ _) fun t _ => ?_; rcases t with t | t <;> try dsimp only [q_s_ValidValue_j2])
    | with_reducible refine Le.bool (fun _ => ?_) (fun _ => ?_)
    | ((with_reducible refine Le.ret ?_); exact rfl)
    | with_reducible refine Le.itq (fun _ => ?_) (fun _ => ?_)

-- spec.IsNull
theorem g_s_IsNull (p0 : TValue) : Le (fun r => some (D.bool r, [], [])) (s_IsNull p0) (vcall T 134 [D.agg [D.int .i64 p0.Kind, D.int .i64 p0.Num, D.str p0.Text, D.int .i64 p0.Ref]] []) := by
  unfold s_IsNull
  refine Le.enter (g := v134) rfl rfl rfl rfl ?_
  try conv => arg 3; simp (maxSteps := 999999) only [sx, ty, ↓reduceIte, reduceCtorEq, Nat.reduceAdd, Nat.reduceSub, Nat.reduceLeDiff, Nat.reduceEqDiff, Nat.reduceLT, Nat.reduceMul, Nat.reduceBNe, List.reduceReplicate, Int.reduceLE, Int.reduceLT, Int.reduceEq, Int.reduceToNat, Int.reduceNeg, *, v134, v134_b]
  ((with_reducible refine Le.ret ?_); exact rfl)

-- spec.l17At
noncomputable abbrev x_s_l17At_l1 (s0 : List ByteArray) (s1 : ByteArray) (s5 : Int) (k : List Fr) : Option Res := go T (enF [.tmp 4] []) v242_m1 (.lp v242_l1 :: .bl 0 :: .sq (.clr [4,5,6,7,8,9,10,11,12,13,14,15,16,17,18]) :: k) ⟨[.d (D.sl false 1 (List.map D.str s0)), .d (D.str s1), Z, Z, Z, .d (D.int .i64 s5), Z, Z, Z, Z, Z, Z, Z, Z, Z, Z, Z, Z, Z], []⟩
noncomputable abbrev q_s_l17At_l1 (s0 : List ByteArray) (s1 : ByteArray) (k : List Fr) (t : (Unit ⊕ Int)) : Option Res := match t with | .inl t => bk T (enF [.tmp 4] []) k ⟨[.d (D.sl false 1 (List.map D.str s0)), .d (D.str s1), Z, Z, Z, Z, Z, Z, Z, Z, Z, Z, Z, Z, Z, Z, Z, Z, Z], []⟩ | .inr t => some (D.int .i64 t, [], [])
theorem p_s_l17At_l1 (s0 : List ByteArray) (s1 : ByteArray) : ∀ (s5 : Int) (k : List Fr), Le (q_s_l17At_l1 s0 s1 k) (s_l17At_l1 s0 s1 s5) (x_s_l17At_l1 s0 s1 s5 k) := by
  intro s5 k
  refine Le.cp (X := x_s_l17At_l1 s0 s1 s5) (Q := q_s_l17At_l1 s0 s1) ?_ k
  refine s_l17At_l1.partial_correctness s0 s1 (motive := fun s5 r => ∀ k : List Fr, x_s_l17At_l1 s0 s1 s5 k = q_s_l17At_l1 s0 s1 k r) ?_ s5
  intro rec hrec s5
  refine Le.pc ?_
  intro k
  unfold x_s_l17At_l1 v242_m1
  repeat' (try conv => arg 3; simp (maxSteps := 999999) only [sx, ty, ↓reduceIte, reduceCtorEq, Nat.reduceAdd, Nat.reduceSub, Nat.reduceLeDiff, Nat.reduceEqDiff, Nat.reduceLT, Nat.reduceMul, Nat.reduceBNe, List.reduceReplicate, Int.reduceLE, Int.reduceLT, Int.reduceEq, Int.reduceToNat, Int.reduceNeg, *, w242_1]); first
    | with_reducible refine Le.idx fun _ _ _ _ => ?_
    | ((with_reducible refine Le.ret ?_); exact rfl)
    | with_reducible refine Le.itq (fun _ => ?_) (fun _ => ?_)
    | exact fun r hr => hrec _ r hr k

theorem g_s_l17At (p0 : List ByteArray) (p1 : ByteArray) : Le (fun r => some (D.int .i64 r, [], [])) (s_l17At p0 p1) (vcall T 242 [D.sl false 1 (List.map D.str p0), D.str p1] []) := by
  unfold s_l17At
  refine Le.enter (g := v242) rfl rfl rfl rfl ?_
  repeat' (try conv => arg 3; simp (maxSteps := 999999) only [sx, ty, ↓reduceIte, reduceCtorEq, Nat.reduceAdd, Nat.reduceSub, Nat.reduceLeDiff, Nat.reduceEqDiff, Nat.reduceLT, Nat.reduceMul, Nat.reduceBNe, List.reduceReplicate, Int.reduceLE, Int.reduceLT, Int.reduceEq, Int.reduceToNat, Int.reduceNeg, *, w242_1, v242, v242_b]); first
    | (refine Le.via (p_s_l17At_l1 _ _ _ _) fun t _ => ?_; rcases t with t | t <;> try dsimp only [q_s_l17At_l1])
    | ((with_reducible refine Le.ret ?_); exact rfl)

-- spec.l18Names
noncomputable abbrev x_s_l18Names_l1 (s0 : List ByteArray) (s3 : Int) (k : List Fr) : Option Res := go T (enF [.tmp 2] []) v204_m1 (.lp v204_l1 :: .bl 0 :: .sq (.clr [2,3,4,5,6,7,8,9,10,11,12,13,14,15,16,17,18,19,20,21,22,23,24,25]) :: k) ⟨[.d (D.sl false 1 (List.map D.str s0)), Z, Z, .d (D.int .i64 s3), Z, Z, Z, Z, Z, Z, Z, Z, Z, Z, Z, Z, Z, Z, Z, Z, Z, Z, Z, Z, Z, Z], []⟩
noncomputable abbrev q_s_l18Names_l1 (s0 : List ByteArray) (k : List Fr) (t : (Unit ⊕ Bool)) : Option Res := match t with | .inl t => bk T (enF [.tmp 2] []) k ⟨[.d (D.sl false 1 (List.map D.str s0)), Z, Z, Z, Z, Z, Z, Z, Z, Z, Z, Z, Z, Z, Z, Z, Z, Z, Z, Z, Z, Z, Z, Z, Z, Z], []⟩ | .inr t => some (D.bool t, [], [])
theorem p_s_l18Names_l1 (s0 : List ByteArray) : ∀ (s3 : Int) (k : List Fr), Le (q_s_l18Names_l1 s0 k) (s_l18Names_l1 s0 s3) (x_s_l18Names_l1 s0 s3 k) := by
  intro s3 k
  refine Le.cp (X := x_s_l18Names_l1 s0 s3) (Q := q_s_l18Names_l1 s0) ?_ k
  refine s_l18Names_l1.partial_correctness s0 (motive := fun s3 r => ∀ k : List Fr, x_s_l18Names_l1 s0 s3 k = q_s_l18Names_l1 s0 k r) ?_ s3
  intro rec hrec s3
  refine Le.pc ?_
  intro k
  unfold x_s_l18Names_l1 v204_m1
  repeat' (try conv => arg 3; simp (maxSteps := 999999) only [sx, ty, ↓reduceIte, reduceCtorEq, Nat.reduceAdd, Nat.reduceSub, Nat.reduceLeDiff, Nat.reduceEqDiff, Nat.reduceLT, Nat.reduceMul, Nat.reduceBNe, List.reduceReplicate, Int.reduceLE, Int.reduceLT, Int.reduceEq, Int.reduceToNat, Int.reduceNeg, *, w204_1]); first
    | refine Le.call (g_s_IsName _) fun _ _ => ?_
    | refine Le.call (g_s_l17At _ _) fun _ _ => ?_
    | with_reducible refine Le.idx fun _ _ _ _ => ?_
    | with_reducible refine Le.bool (fun _ => ?_) (fun _ => ?_)
    | ((with_reducible refine Le.ret ?_); exact rfl)
    | with_reducible refine Le.itq (fun _ => ?_) (fun _ => ?_)
    | exact fun r hr => hrec _ r hr k

theorem g_s_l18Names (p0 : List ByteArray) : Le (fun r => some (D.bool r, [], [])) (s_l18Names p0) (vcall T 204 [D.sl false 1 (List.map D.str p0)] []) := by
  unfold s_l18Names
  refine Le.enter (g := v204) rfl rfl rfl rfl ?_
  repeat' (try conv => arg 3; simp (maxSteps := 999999) only [sx, ty, ↓reduceIte, reduceCtorEq, Nat.reduceAdd, Nat.reduceSub, Nat.reduceLeDiff, Nat.reduceEqDiff, Nat.reduceLT, Nat.reduceMul, Nat.reduceBNe, List.reduceReplicate, Int.reduceLE, Int.reduceLT, Int.reduceEq, Int.reduceToNat, Int.reduceNeg, *, w204_1, v204, v204_b]); first
    | (refine Le.via (p_s_l18Names_l1 _ _ _) fun t _ => ?_; rcases t with t | t <;> try dsimp only [q_s_l18Names_l1])
    | ((with_reducible refine Le.ret ?_); exact rfl)

-- spec.l18Function
noncomputable abbrev x_s_l18Function_j1 (s1 : TFunction) (k : List Fr) : Option Res := go T (enF [.tmp 2] []) v135_j1 k ⟨[Z, .box [D.str s1.Name, D.sl false 1 (List.map D.str s1.Params), D.sl false 1 (List.map D.str s1.Locals), D.str s1.Label], Z, Z, Z, Z, Z, Z, Z, Z, Z, Z, Z, Z, Z, Z, Z, Z, Z, Z, Z, Z, Z, Z, Z, Z, Z, Z, Z, Z, Z, Z, Z], []⟩
noncomputable abbrev q_s_l18Function_j1 (s1 : TFunction) (k : List Fr) (t : Bool) : Option Res := some (D.bool t, [], [])
theorem p_s_l18Function_j1 (s1 : TFunction) (k : List Fr) : Le (q_s_l18Function_j1 s1 k) (s_l18Function_j1 s1) (x_s_l18Function_j1 s1 k) := by
  unfold s_l18Function_j1 x_s_l18Function_j1 v135_j1
  try conv => arg 3; simp (maxSteps := 999999) only [sx, ty, ↓reduceIte, reduceCtorEq, Nat.reduceAdd, Nat.reduceSub, Nat.reduceLeDiff, Nat.reduceEqDiff, Nat.reduceLT, Nat.reduceMul, Nat.reduceBNe, List.reduceReplicate, Int.reduceLE, Int.reduceLT, Int.reduceEq, Int.reduceToNat, Int.reduceNeg, *]
  refine Le.chk fun h => ?_
  try conv => arg 3; simp (maxSteps := 999999) only [sx, ty, ↓reduceIte, reduceCtorEq, Nat.reduceAdd, Nat.reduceSub, Nat.reduceLeDiff, Nat.reduceEqDiff, Nat.reduceLT, Nat.reduceMul, Nat.reduceBNe, List.reduceReplicate, Int.reduceLE, Int.reduceLT, Int.reduceEq, Int.reduceToNat, Int.reduceNeg, *]
  refine Le.app fun c31 h_1 h_2 => ?_
  replace h_1 : List.map D.str s1.Params ++ List.map D.str s1.Locals = List.map D.str c31 := by rw [h_1, List.map_append] <;> rfl
  replace h_2 : s1.Params.length + s1.Locals.length ≤ most := h_2
  repeat' (try conv => arg 3; simp (maxSteps := 999999) only [sx, ty, ↓reduceIte, reduceCtorEq, Nat.reduceAdd, Nat.reduceSub, Nat.reduceLeDiff, Nat.reduceEqDiff, Nat.reduceLT, Nat.reduceMul, Nat.reduceBNe, List.reduceReplicate, Int.reduceLE, Int.reduceLT, Int.reduceEq, Int.reduceToNat, Int.reduceNeg, *]); first
    | refine Le.dcall (g_s_l18Names _) fun _ _ => ?_
    | ((with_reducible refine Le.ret ?_); exact rfl)

theorem g_s_l18Function (p0 : TFunction) : Le (fun r => some (D.bool r, [], [])) (s_l18Function p0) (vcall T 135 [D.agg [D.str p0.Name, D.sl false 1 (List.map D.str p0.Params), D.sl false 1 (List.map D.str p0.Locals), D.str p0.Label]] []) := by
  unfold s_l18Function
  refine Le.enter (g := v135) rfl rfl rfl rfl ?_
  repeat' (try conv => arg 3; simp (maxSteps := 999999) only [sx, ty, ↓reduceIte, reduceCtorEq, Nat.reduceAdd, Nat.reduceSub, Nat.reduceLeDiff, Nat.reduceEqDiff, Nat.reduceLT, Nat.reduceMul, Nat.reduceBNe, List.reduceReplicate, Int.reduceLE, Int.reduceLT, Int.reduceEq, Int.reduceToNat, Int.reduceNeg, *, v135, v135_b]); first
    | refine Le.call (g_s_IsName _) fun _ _ => ?_
    | exact p_s_l18Function_j1 _ _
    | with_reducible refine Le.bool (fun _ => ?_) (fun _ => ?_)
    | ((with_reducible refine Le.ret ?_); exact rfl)
    | with_reducible refine Le.itq (fun _ => ?_) (fun _ => ?_)

-- spec.l18Type
theorem g_s_l18Type (p0 : TRecordType) : Le (fun r => some (D.bool r, [], [])) (s_l18Type p0) (vcall T 136 [D.agg [D.str p0.Name, D.sl false 1 (List.map D.str p0.Fields)]] []) := by
  unfold s_l18Type
  refine Le.enter (g := v136) rfl rfl rfl rfl ?_
  repeat' (try conv => arg 3; simp (maxSteps := 999999) only [sx, ty, ↓reduceIte, reduceCtorEq, Nat.reduceAdd, Nat.reduceSub, Nat.reduceLeDiff, Nat.reduceEqDiff, Nat.reduceLT, Nat.reduceMul, Nat.reduceBNe, List.reduceReplicate, Int.reduceLE, Int.reduceLT, Int.reduceEq, Int.reduceToNat, Int.reduceNeg, *, v136, v136_b]); first
    | refine Le.call (g_s_IsName _) fun _ _ => ?_
    | refine Le.call (g_s_l00In _ _ _) fun _ _ => ?_
    | refine Le.call (g_s_l18Names _) fun _ _ => ?_
    | with_reducible refine Le.bool (fun _ => ?_) (fun _ => ?_)
    | ((with_reducible refine Le.ret ?_); exact rfl)

-- spec.ValidScope
noncomputable abbrev x_s_ValidScope_l1 (s1 : TScope) (s3 : Int) (k : List Fr) : Option Res := go T (enF [.tmp 2] []) v64_m1 (.lp v64_l1 :: .bl 0 :: .sq (.clr [0,2,3,4,7,8,9,10,11,12,13,14,15,16,17,18,19,20,21,22,23,24,25,26,27,28,29,30,31,32,33,34,35,36,37,38,39,40,41,42,43,44,45,46,47,48,49,50,51,52,53,54,55,56,57,58,59,60,61,62,63,64,65]) :: k) ⟨[Z, .box [D.sl false 5 (List.map (TBinding.e false) s1.Vars), D.sl false 4 (List.map (TFunction.e false) s1.Functions), D.sl false 2 (List.map (TRecordType.e false) s1.Types)], Z, .d (D.int .i64 s3), Z, Z, Z, Z, Z, Z, Z, Z, Z, Z, Z, Z, Z, Z, Z, Z, Z, Z, Z, Z, Z, Z, Z, Z, Z, Z, Z, Z, Z, Z, Z, Z, Z, Z, Z, Z, Z, Z, Z, Z, Z, Z, Z, Z, Z, Z, Z, Z, Z, Z, Z, Z, Z, Z, Z, Z, Z, Z, Z, Z, Z, Z, Z, Z, Z, Z, Z, Z, Z, Z, Z, Z, Z, Z, Z, Z, Z, Z, Z, Z, Z, Z, Z, Z, Z, Z, Z, Z, Z, Z, Z, Z, Z, Z, Z, Z, Z, Z, Z, Z, Z, Z, Z, Z, Z, Z, Z, Z, Z, Z, Z, Z, Z, Z, Z, Z, Z, Z, Z, Z, Z, Z, Z, Z, Z, Z, Z, Z, Z, Z], []⟩
noncomputable abbrev q_s_ValidScope_l1 (s1 : TScope) (k : List Fr) (t : (Unit ⊕ Bool)) : Option Res := match t with | .inl t => bk T (enF [.tmp 2] []) k ⟨[Z, .box [D.sl false 5 (List.map (TBinding.e false) s1.Vars), D.sl false 4 (List.map (TFunction.e false) s1.Functions), D.sl false 2 (List.map (TRecordType.e false) s1.Types)], Z, Z, Z, Z, Z, Z, Z, Z, Z, Z, Z, Z, Z, Z, Z, Z, Z, Z, Z, Z, Z, Z, Z, Z, Z, Z, Z, Z, Z, Z, Z, Z, Z, Z, Z, Z, Z, Z, Z, Z, Z, Z, Z, Z, Z, Z, Z, Z, Z, Z, Z, Z, Z, Z, Z, Z, Z, Z, Z, Z, Z, Z, Z, Z, Z, Z, Z, Z, Z, Z, Z, Z, Z, Z, Z, Z, Z, Z, Z, Z, Z, Z, Z, Z, Z, Z, Z, Z, Z, Z, Z, Z, Z, Z, Z, Z, Z, Z, Z, Z, Z, Z, Z, Z, Z, Z, Z, Z, Z, Z, Z, Z, Z, Z, Z, Z, Z, Z, Z, Z, Z, Z, Z, Z, Z, Z, Z, Z, Z, Z, Z, Z], []⟩ | .inr t => some (D.bool t, [], [])
theorem p_s_ValidScope_l1 (s1 : TScope) : ∀ (s3 : Int) (k : List Fr), Le (q_s_ValidScope_l1 s1 k) (s_ValidScope_l1 s1 s3) (x_s_ValidScope_l1 s1 s3 k) := by
  intro s3 k
  refine Le.cp (X := x_s_ValidScope_l1 s1 s3) (Q := q_s_ValidScope_l1 s1) ?_ k
  refine s_ValidScope_l1.partial_correctness s1 (motive := fun s3 r => ∀ k : List Fr, x_s_ValidScope_l1 s1 s3 k = q_s_ValidScope_l1 s1 k r) ?_ s3
  intro rec hrec s3
  refine Le.pc ?_
  intro k
  unfold x_s_ValidScope_l1 v64_m1
  repeat' (try conv => arg 3; simp (maxSteps := 999999) only [sx, ty, ↓reduceIte, reduceCtorEq, Nat.reduceAdd, Nat.reduceSub, Nat.reduceLeDiff, Nat.reduceEqDiff, Nat.reduceLT, Nat.reduceMul, Nat.reduceBNe, List.reduceReplicate, Int.reduceLE, Int.reduceLT, Int.reduceEq, Int.reduceToNat, Int.reduceNeg, *, w64_1, w64_2, w64_3]); first
    | refine Le.dcall (g_s_IsName _) fun _ _ => ?_
    | refine Le.dcall (g_s_ValidValue _) fun _ _ => ?_
    | refine Le.dcall (g_s_IsNull _) fun _ _ => ?_
    | with_reducible refine Le.idx fun _ _ _ _ => ?_
    | with_reducible refine Le.bool (fun _ => ?_) (fun _ => ?_)
    | ((with_reducible refine Le.ret ?_); exact rfl)
    | with_reducible refine Le.itq (fun _ => ?_) (fun _ => ?_)
    | exact fun r hr => hrec _ r hr k

noncomputable abbrev x_s_ValidScope_l2 (s1 : TScope) (s5 : Int) (k : List Fr) : Option Res := go T (enF [.tmp 2] []) v64_m2 (.lp v64_l2 :: .bl 2 :: .sq (.clr [0,2,3,4,5,7,8,9,10,11,12,13,14,15,16,17,18,19,20,21,22,23,24,25,26,27,28,29,30,31,32,33,34,35,36,37,38,39,40,41,42,43,44,45,46,47,48,49,50,51,52,53,54,55,56,57,58,59,60,61,62,63,64,65,66,67,68,69,70,71,72,73,74,75,76,77,78,79,80,81,82,83,84,85,86,87,88,89,90,91,92,93,94,95,96,97,98,99]) :: k) ⟨[Z, .box [D.sl false 5 (List.map (TBinding.e false) s1.Vars), D.sl false 4 (List.map (TFunction.e false) s1.Functions), D.sl false 2 (List.map (TRecordType.e false) s1.Types)], Z, Z, Z, .d (D.int .i64 s5), Z, Z, Z, Z, Z, Z, Z, Z, Z, Z, Z, Z, Z, Z, Z, Z, Z, Z, Z, Z, Z, Z, Z, Z, Z, Z, Z, Z, Z, Z, Z, Z, Z, Z, Z, Z, Z, Z, Z, Z, Z, Z, Z, Z, Z, Z, Z, Z, Z, Z, Z, Z, Z, Z, Z, Z, Z, Z, Z, Z, Z, Z, Z, Z, Z, Z, Z, Z, Z, Z, Z, Z, Z, Z, Z, Z, Z, Z, Z, Z, Z, Z, Z, Z, Z, Z, Z, Z, Z, Z, Z, Z, Z, Z, Z, Z, Z, Z, Z, Z, Z, Z, Z, Z, Z, Z, Z, Z, Z, Z, Z, Z, Z, Z, Z, Z, Z, Z, Z, Z, Z, Z, Z, Z, Z, Z, Z, Z], []⟩
noncomputable abbrev q_s_ValidScope_l2 (s1 : TScope) (k : List Fr) (t : (Unit ⊕ Bool)) : Option Res := match t with | .inl t => bk T (enF [.tmp 2] []) k ⟨[Z, .box [D.sl false 5 (List.map (TBinding.e false) s1.Vars), D.sl false 4 (List.map (TFunction.e false) s1.Functions), D.sl false 2 (List.map (TRecordType.e false) s1.Types)], Z, Z, Z, Z, Z, Z, Z, Z, Z, Z, Z, Z, Z, Z, Z, Z, Z, Z, Z, Z, Z, Z, Z, Z, Z, Z, Z, Z, Z, Z, Z, Z, Z, Z, Z, Z, Z, Z, Z, Z, Z, Z, Z, Z, Z, Z, Z, Z, Z, Z, Z, Z, Z, Z, Z, Z, Z, Z, Z, Z, Z, Z, Z, Z, Z, Z, Z, Z, Z, Z, Z, Z, Z, Z, Z, Z, Z, Z, Z, Z, Z, Z, Z, Z, Z, Z, Z, Z, Z, Z, Z, Z, Z, Z, Z, Z, Z, Z, Z, Z, Z, Z, Z, Z, Z, Z, Z, Z, Z, Z, Z, Z, Z, Z, Z, Z, Z, Z, Z, Z, Z, Z, Z, Z, Z, Z, Z, Z, Z, Z, Z, Z], []⟩ | .inr t => some (D.bool t, [], [])
theorem p_s_ValidScope_l2 (s1 : TScope) : ∀ (s5 : Int) (k : List Fr), Le (q_s_ValidScope_l2 s1 k) (s_ValidScope_l2 s1 s5) (x_s_ValidScope_l2 s1 s5 k) := by
  intro s5 k
  refine Le.cp (X := x_s_ValidScope_l2 s1 s5) (Q := q_s_ValidScope_l2 s1) ?_ k
  refine s_ValidScope_l2.partial_correctness s1 (motive := fun s5 r => ∀ k : List Fr, x_s_ValidScope_l2 s1 s5 k = q_s_ValidScope_l2 s1 k r) ?_ s5
  intro rec hrec s5
  refine Le.pc ?_
  intro k
  unfold x_s_ValidScope_l2 v64_m2
  repeat' (try conv => arg 3; simp (maxSteps := 999999) only [sx, ty, ↓reduceIte, reduceCtorEq, Nat.reduceAdd, Nat.reduceSub, Nat.reduceLeDiff, Nat.reduceEqDiff, Nat.reduceLT, Nat.reduceMul, Nat.reduceBNe, List.reduceReplicate, Int.reduceLE, Int.reduceLT, Int.reduceEq, Int.reduceToNat, Int.reduceNeg, *, w64_1, w64_2, w64_3]); first
    | refine Le.dcall (g_s_l18Function _) fun _ _ => ?_
    | with_reducible refine Le.idx fun _ _ _ _ => ?_
    | with_reducible refine Le.bool (fun _ => ?_) (fun _ => ?_)
    | ((with_reducible refine Le.ret ?_); exact rfl)
    | with_reducible refine Le.itq (fun _ => ?_) (fun _ => ?_)
    | exact fun r hr => hrec _ r hr k

noncomputable abbrev x_s_ValidScope_l3 (s1 : TScope) (s6 : Int) (k : List Fr) : Option Res := go T (enF [.tmp 2] []) v64_m3 (.lp v64_l3 :: .bl 4 :: .sq (.clr [0,1,2,3,4,5,6,7,8,9,10,11,12,13,14,15,16,17,18,19,20,21,22,23,24,25,26,27,28,29,30,31,32,33,34,35,36,37,38,39,40,41,42,43,44,45,46,47,48,49,50,51,52,53,54,55,56,57,58,59,60,61,62,63,64,65,66,67,68,69,70,71,72,73,74,75,76,77,78,79,80,81,82,83,84,85,86,87,88,89,90,91,92,93,94,95,96,97,98,99,100,101,102,103,104,105,106,107,108,109,110,111,112,113,114,115,116,117,118,119,120,121,122,123,124,125,126,127,128,129,130,131,132,133]) :: k) ⟨[Z, .box [D.sl false 5 (List.map (TBinding.e false) s1.Vars), D.sl false 4 (List.map (TFunction.e false) s1.Functions), D.sl false 2 (List.map (TRecordType.e false) s1.Types)], Z, Z, Z, Z, .d (D.int .i64 s6), Z, Z, Z, Z, Z, Z, Z, Z, Z, Z, Z, Z, Z, Z, Z, Z, Z, Z, Z, Z, Z, Z, Z, Z, Z, Z, Z, Z, Z, Z, Z, Z, Z, Z, Z, Z, Z, Z, Z, Z, Z, Z, Z, Z, Z, Z, Z, Z, Z, Z, Z, Z, Z, Z, Z, Z, Z, Z, Z, Z, Z, Z, Z, Z, Z, Z, Z, Z, Z, Z, Z, Z, Z, Z, Z, Z, Z, Z, Z, Z, Z, Z, Z, Z, Z, Z, Z, Z, Z, Z, Z, Z, Z, Z, Z, Z, Z, Z, Z, Z, Z, Z, Z, Z, Z, Z, Z, Z, Z, Z, Z, Z, Z, Z, Z, Z, Z, Z, Z, Z, Z, Z, Z, Z, Z, Z, Z], []⟩
noncomputable abbrev q_s_ValidScope_l3 (s1 : TScope) (k : List Fr) (t : (Unit ⊕ Bool)) : Option Res := match t with | .inl t => bk T (enF [.tmp 2] []) k ⟨[Z, Z, Z, Z, Z, Z, Z, Z, Z, Z, Z, Z, Z, Z, Z, Z, Z, Z, Z, Z, Z, Z, Z, Z, Z, Z, Z, Z, Z, Z, Z, Z, Z, Z, Z, Z, Z, Z, Z, Z, Z, Z, Z, Z, Z, Z, Z, Z, Z, Z, Z, Z, Z, Z, Z, Z, Z, Z, Z, Z, Z, Z, Z, Z, Z, Z, Z, Z, Z, Z, Z, Z, Z, Z, Z, Z, Z, Z, Z, Z, Z, Z, Z, Z, Z, Z, Z, Z, Z, Z, Z, Z, Z, Z, Z, Z, Z, Z, Z, Z, Z, Z, Z, Z, Z, Z, Z, Z, Z, Z, Z, Z, Z, Z, Z, Z, Z, Z, Z, Z, Z, Z, Z, Z, Z, Z, Z, Z, Z, Z, Z, Z, Z, Z], []⟩ | .inr t => some (D.bool t, [], [])
theorem p_s_ValidScope_l3 (s1 : TScope) : ∀ (s6 : Int) (k : List Fr), Le (q_s_ValidScope_l3 s1 k) (s_ValidScope_l3 s1 s6) (x_s_ValidScope_l3 s1 s6 k) := by
  intro s6 k
  refine Le.cp (X := x_s_ValidScope_l3 s1 s6) (Q := q_s_ValidScope_l3 s1) ?_ k
  refine s_ValidScope_l3.partial_correctness s1 (motive := fun s6 r => ∀ k : List Fr, x_s_ValidScope_l3 s1 s6 k = q_s_ValidScope_l3 s1 k r) ?_ s6
  intro rec hrec s6
  refine Le.pc ?_
  intro k
  unfold x_s_ValidScope_l3 v64_m3
  repeat' (try conv => arg 3; simp (maxSteps := 999999) only [sx, ty, ↓reduceIte, reduceCtorEq, Nat.reduceAdd, Nat.reduceSub, Nat.reduceLeDiff, Nat.reduceEqDiff, Nat.reduceLT, Nat.reduceMul, Nat.reduceBNe, List.reduceReplicate, Int.reduceLE, Int.reduceLT, Int.reduceEq, Int.reduceToNat, Int.reduceNeg, *, w64_1, w64_2, w64_3]); first
    | refine Le.dcall (g_s_l18Type _) fun _ _ => ?_
    | with_reducible refine Le.idx fun _ _ _ _ => ?_
    | with_reducible refine Le.bool (fun _ => ?_) (fun _ => ?_)
    | ((with_reducible refine Le.ret ?_); exact rfl)
    | with_reducible refine Le.itq (fun _ => ?_) (fun _ => ?_)
    | exact fun r hr => hrec _ r hr k

noncomputable abbrev x_s_ValidScope_j1 (s1 : TScope) (k : List Fr) : Option Res := go T (enF [.tmp 2] []) v64_j1 k ⟨[Z, .box [D.sl false 5 (List.map (TBinding.e false) s1.Vars), D.sl false 4 (List.map (TFunction.e false) s1.Functions), D.sl false 2 (List.map (TRecordType.e false) s1.Types)], Z, Z, Z, Z, Z, Z, Z, Z, Z, Z, Z, Z, Z, Z, Z, Z, Z, Z, Z, Z, Z, Z, Z, Z, Z, Z, Z, Z, Z, Z, Z, Z, Z, Z, Z, Z, Z, Z, Z, Z, Z, Z, Z, Z, Z, Z, Z, Z, Z, Z, Z, Z, Z, Z, Z, Z, Z, Z, Z, Z, Z, Z, Z, Z, Z, Z, Z, Z, Z, Z, Z, Z, Z, Z, Z, Z, Z, Z, Z, Z, Z, Z, Z, Z, Z, Z, Z, Z, Z, Z, Z, Z, Z, Z, Z, Z, Z, Z, Z, Z, Z, Z, Z, Z, Z, Z, Z, Z, Z, Z, Z, Z, Z, Z, Z, Z, Z, Z, Z, Z, Z, Z, Z, Z, Z, Z, Z, Z, Z, Z, Z, Z], []⟩
noncomputable abbrev q_s_ValidScope_j1 (s1 : TScope) (k : List Fr) (t : Bool) : Option Res := some (D.bool t, [], [])
theorem p_s_ValidScope_j1 (s1 : TScope) (k : List Fr) : Le (q_s_ValidScope_j1 s1 k) (s_ValidScope_j1 s1) (x_s_ValidScope_j1 s1 k) := by
  unfold s_ValidScope_j1 x_s_ValidScope_j1 v64_j1
  repeat' (try conv => arg 3; simp (maxSteps := 999999) only [sx, ty, ↓reduceIte, reduceCtorEq, Nat.reduceAdd, Nat.reduceSub, Nat.reduceLeDiff, Nat.reduceEqDiff, Nat.reduceLT, Nat.reduceMul, Nat.reduceBNe, List.reduceReplicate, Int.reduceLE, Int.reduceLT, Int.reduceEq, Int.reduceToNat, Int.reduceNeg, *, w64_1, w64_2, w64_3]); first
    | (refine Le.via (p_s_ValidScope_l1 _ _ _) fun t _ => ?_; rcases t with t | t <;> try dsimp only [q_s_ValidScope_l1])
    | (refine Le.via (p_s_ValidScope_l2 _ _ _) fun t _ => ?_; rcases t with t | t <;> try dsimp only [q_s_ValidScope_l2])
    | (refine Le.via (p_s_ValidScope_l3 _ _ _) fun t _ => ?_; rcases t with t | t <;> try dsimp only [q_s_ValidScope_l3])
    | ((with_reducible refine Le.ret ?_); exact rfl)

theorem g_s_ValidScope (p0 : TScope) : Le (fun r => some (D.bool r, [], [])) (s_ValidScope p0) (vcall T 64 [D.agg [D.sl false 5 (List.map (TBinding.e false) p0.Vars), D.sl false 4 (List.map (TFunction.e false) p0.Functions), D.sl false 2 (List.map (TRecordType.e false) p0.Types)]] []) := by
  unfold s_ValidScope
  refine Le.enter (g := v64) rfl rfl rfl rfl ?_
  repeat' (try conv => arg 3; simp (maxSteps := 999999) only [sx, ty, ↓reduceIte, reduceCtorEq, Nat.reduceAdd, Nat.reduceSub, Nat.reduceLeDiff, Nat.reduceEqDiff, Nat.reduceLT, Nat.reduceMul, Nat.reduceBNe, List.reduceReplicate, Int.reduceLE, Int.reduceLT, Int.reduceEq, Int.reduceToNat, Int.reduceNeg, *, w64_1, w64_2, w64_3, v64, v64_b]); first
    | exact p_s_ValidScope_j1 _ _
    | ((with_reducible refine Le.ret ?_); exact rfl)
    | with_reducible refine Le.itq (fun _ => ?_) (fun _ => ?_)

-- spec.l18OwnFunction
theorem g_s_l18OwnFunction (p0 : TFunction) : Le (fun r => some (D.agg [D.str r.Name, D.sl true 1 (List.map D.str r.Params), D.sl true 1 (List.map D.str r.Locals), D.str r.Label], [], [])) (s_l18OwnFunction p0) (vcall T 83 [D.agg [D.str p0.Name, D.sl false 1 (List.map D.str p0.Params), D.sl false 1 (List.map D.str p0.Locals), D.str p0.Label]] []) := by
  unfold s_l18OwnFunction
  refine Le.enter (g := v83) rfl rfl rfl rfl ?_
  repeat' (try conv => arg 3; simp (maxSteps := 999999) only [sx, ty, ↓reduceIte, reduceCtorEq, Nat.reduceAdd, Nat.reduceSub, Nat.reduceLeDiff, Nat.reduceEqDiff, Nat.reduceLT, Nat.reduceMul, Nat.reduceBNe, List.reduceReplicate, Int.reduceLE, Int.reduceLT, Int.reduceEq, Int.reduceToNat, Int.reduceNeg, *, v83, v83_b]); first
    | with_reducible refine Le.chk fun _ => ?_
    | ((with_reducible refine Le.ret ?_); exact rfl)

-- spec.FunctionOf
noncomputable abbrev x_s_FunctionOf_j1 (s1 : ByteArray) (s2 : TScope) (s4 : TFunction) (s6 : Int) (k : List Fr) : Option Res := go T (enF [.cell 4 (.many 4), .tmp 5] []) v24_j1 k ⟨[Z, .d (D.str s1), .box [D.sl false 5 (List.map (TBinding.e false) s2.Vars), D.sl false 4 (List.map (TFunction.e false) s2.Functions), D.sl false 2 (List.map (TRecordType.e false) s2.Types)], Z, .box [D.str s4.Name, D.sl true 1 (List.map D.str s4.Params), D.sl true 1 (List.map D.str s4.Locals), D.str s4.Label], Z, .d (D.int .i64 s6), Z, Z, Z, Z, Z, Z, Z, Z, Z, Z, Z, Z, Z, Z, Z, Z, Z], []⟩
noncomputable abbrev q_s_FunctionOf_j1 (s1 : ByteArray) (s2 : TScope) (s4 : TFunction) (s6 : Int) (k : List Fr) (t : (TFunction × Bool)) : Option Res := some (D.tup [D.agg [D.str t.1.Name, D.sl true 1 (List.map D.str t.1.Params), D.sl true 1 (List.map D.str t.1.Locals), D.str t.1.Label], D.bool t.2], [], [])
theorem p_s_FunctionOf_j1 (s1 : ByteArray) (s2 : TScope) (s4 : TFunction) (s6 : Int) (k : List Fr) : Le (q_s_FunctionOf_j1 s1 s2 s4 s6 k) (s_FunctionOf_j1 s1 s2 s4 s6) (x_s_FunctionOf_j1 s1 s2 s4 s6 k) := by
  unfold s_FunctionOf_j1 x_s_FunctionOf_j1 v24_j1
  repeat' (try conv => arg 3; simp (maxSteps := 999999) only [sx, ty, ↓reduceIte, reduceCtorEq, Nat.reduceAdd, Nat.reduceSub, Nat.reduceLeDiff, Nat.reduceEqDiff, Nat.reduceLT, Nat.reduceMul, Nat.reduceBNe, List.reduceReplicate, Int.reduceLE, Int.reduceLT, Int.reduceEq, Int.reduceToNat, Int.reduceNeg, *]); first
    | refine Le.call (g_s_l18OwnFunction _) fun _ _ => ?_
    | with_reducible refine Le.idx fun _ _ _ _ => ?_
    | ((with_reducible refine Le.ret ?_); exact rfl)

theorem g_s_FunctionOf (p0 : TScope) (p1 : ByteArray) : Le (fun r => some (D.tup [D.agg [D.str r.1.Name, D.sl true 1 (List.map D.str r.1.Params), D.sl true 1 (List.map D.str r.1.Locals), D.str r.1.Label], D.bool r.2], [], [])) (s_FunctionOf p0 p1) (vcall T 24 [D.agg [D.sl false 5 (List.map (TBinding.e false) p0.Vars), D.sl false 4 (List.map (TFunction.e false) p0.Functions), D.sl false 2 (List.map (TRecordType.e false) p0.Types)], D.str p1] []) := by
  unfold s_FunctionOf
  refine Le.enter (g := v24) rfl rfl rfl rfl ?_
  repeat' (try conv => arg 3; simp (maxSteps := 999999) only [sx, ty, ↓reduceIte, reduceCtorEq, Nat.reduceAdd, Nat.reduceSub, Nat.reduceLeDiff, Nat.reduceEqDiff, Nat.reduceLT, Nat.reduceMul, Nat.reduceBNe, List.reduceReplicate, Int.reduceLE, Int.reduceLT, Int.reduceEq, Int.reduceToNat, Int.reduceNeg, *, v24, v24_b]); first
    | refine Le.call (g_s_l18Find _ _) fun _ _ => ?_
    | refine Le.call (g_s_ValidScope _) fun _ _ => ?_
    | exact p_s_FunctionOf_j1 _ _ _ _ _
    | with_reducible refine Le.bool (fun _ => ?_) (fun _ => ?_)
    | ((with_reducible refine Le.ret ?_); exact rfl)
    | with_reducible refine Le.itq (fun _ => ?_) (fun _ => ?_)

-- impl.nameOfBinding
theorem g_i_nameOfBinding (p0 : TBinding) : Le (fun r => some (D.str r, [], [])) (i_nameOfBinding p0) (vcall T 145 [D.agg [D.str p0.Name, D.int .i64 p0.Value.Kind, D.int .i64 p0.Value.Num, D.str p0.Value.Text, D.int .i64 p0.Value.Ref]] []) := by
  unfold i_nameOfBinding
  refine Le.enter (g := v145) rfl rfl rfl rfl ?_
  try conv => arg 3; simp (maxSteps := 999999) only [sx, ty, ↓reduceIte, reduceCtorEq, Nat.reduceAdd, Nat.reduceSub, Nat.reduceLeDiff, Nat.reduceEqDiff, Nat.reduceLT, Nat.reduceMul, Nat.reduceBNe, List.reduceReplicate, Int.reduceLE, Int.reduceLT, Int.reduceEq, Int.reduceToNat, Int.reduceNeg, *, v145, v145_b]
  ((with_reducible refine Le.ret ?_); exact rfl)

-- impl.isSorted[impl.Binding]
noncomputable abbrev x_i_isSorted_Binding_l1 (s0 : List TBinding) (s5 : Int) (k : List Fr) : Option Res := go T (enF [.tmp 4] []) v144_m1 (.lp v144_l1 :: .bl 0 :: .sq (.clr [4,5,6,7,8,9,10,11,12,13,14,15,16,17,18,19,20,21,22,23,24,25]) :: k) ⟨[.d (D.sl false 5 (List.map (TBinding.e false) s0)), .d (D.fn 145 []), Z, Z, Z, .d (D.int .i64 s5), Z, Z, Z, Z, Z, Z, Z, Z, Z, Z, Z, Z, Z, Z, Z, Z, Z, Z, Z, Z], []⟩
noncomputable abbrev q_i_isSorted_Binding_l1 (s0 : List TBinding) (k : List Fr) (t : (Unit ⊕ Bool)) : Option Res := match t with | .inl t => bk T (enF [.tmp 4] []) k ⟨[.d (D.sl false 5 (List.map (TBinding.e false) s0)), .d (D.fn 145 []), Z, Z, Z, Z, Z, Z, Z, Z, Z, Z, Z, Z, Z, Z, Z, Z, Z, Z, Z, Z, Z, Z, Z, Z], []⟩ | .inr t => some (D.bool t, [], [])
theorem p_i_isSorted_Binding_l1 (s0 : List TBinding) : ∀ (s5 : Int) (k : List Fr), Le (q_i_isSorted_Binding_l1 s0 k) (i_isSorted_Binding_l1 s0 s5) (x_i_isSorted_Binding_l1 s0 s5 k) := by
  intro s5 k
  refine Le.cp (X := x_i_isSorted_Binding_l1 s0 s5) (Q := q_i_isSorted_Binding_l1 s0) ?_ k
  refine i_isSorted_Binding_l1.partial_correctness s0 (motive := fun s5 r => ∀ k : List Fr, x_i_isSorted_Binding_l1 s0 s5 k = q_i_isSorted_Binding_l1 s0 k r) ?_ s5
  intro rec hrec s5
  refine Le.pc ?_
  intro k
  unfold x_i_isSorted_Binding_l1 v144_m1
  repeat' (try conv => arg 3; simp (maxSteps := 999999) only [sx, ty, ↓reduceIte, reduceCtorEq, Nat.reduceAdd, Nat.reduceSub, Nat.reduceLeDiff, Nat.reduceEqDiff, Nat.reduceLT, Nat.reduceMul, Nat.reduceBNe, List.reduceReplicate, Int.reduceLE, Int.reduceLT, Int.reduceEq, Int.reduceToNat, Int.reduceNeg, *, w144_1]); first
    | refine Le.dcall (g_i_nameOfBinding _) fun _ _ => ?_
    | with_reducible refine Le.idx fun _ _ _ _ => ?_
    | with_reducible refine Le.bool (fun _ => ?_) (fun _ => ?_)
    | ((with_reducible refine Le.ret ?_); exact rfl)
    | with_reducible refine Le.itq (fun _ => ?_) (fun _ => ?_)
    | exact fun r hr => hrec _ r hr k

theorem g_i_isSorted_Binding (p0 : List TBinding) : Le (fun r => some (D.bool r, [], [])) (i_isSorted_Binding p0) (vcall T 144 [D.sl false 5 (List.map (TBinding.e false) p0), D.fn 145 []] []) := by
  unfold i_isSorted_Binding
  refine Le.enter (g := v144) rfl rfl rfl rfl ?_
  repeat' (try conv => arg 3; simp (maxSteps := 999999) only [sx, ty, ↓reduceIte, reduceCtorEq, Nat.reduceAdd, Nat.reduceSub, Nat.reduceLeDiff, Nat.reduceEqDiff, Nat.reduceLT, Nat.reduceMul, Nat.reduceBNe, List.reduceReplicate, Int.reduceLE, Int.reduceLT, Int.reduceEq, Int.reduceToNat, Int.reduceNeg, *, w144_1, v144, v144_b]); first
    | (refine Le.via (p_i_isSorted_Binding_l1 _ _ _) fun t _ => ?_; rcases t with t | t <;> try dsimp only [q_i_isSorted_Binding_l1])
    | ((with_reducible refine Le.ret ?_); exact rfl)

-- impl.nameOfFunction
theorem g_i_nameOfFunction (p0 : TFunction) : Le (fun r => some (D.str r, [], [])) (i_nameOfFunction p0) (vcall T 147 [D.agg [D.str p0.Name, D.sl false 1 (List.map D.str p0.Params), D.sl false 1 (List.map D.str p0.Locals), D.str p0.Label]] []) := by
  unfold i_nameOfFunction
  refine Le.enter (g := v147) rfl rfl rfl rfl ?_
  try conv => arg 3; simp (maxSteps := 999999) only [sx, ty, ↓reduceIte, reduceCtorEq, Nat.reduceAdd, Nat.reduceSub, Nat.reduceLeDiff, Nat.reduceEqDiff, Nat.reduceLT, Nat.reduceMul, Nat.reduceBNe, List.reduceReplicate, Int.reduceLE, Int.reduceLT, Int.reduceEq, Int.reduceToNat, Int.reduceNeg, *, v147, v147_b]
  ((with_reducible refine Le.ret ?_); exact rfl)

-- impl.isSorted[impl.Function]
noncomputable abbrev x_i_isSorted_Function_l1 (s0 : List TFunction) (s5 : Int) (k : List Fr) : Option Res := go T (enF [.tmp 4] []) v146_m1 (.lp v146_l1 :: .bl 0 :: .sq (.clr [4,5,6,7,8,9,10,11,12,13,14,15,16,17,18,19,20,21,22,23,24,25]) :: k) ⟨[.d (D.sl false 4 (List.map (TFunction.e false) s0)), .d (D.fn 147 []), Z, Z, Z, .d (D.int .i64 s5), Z, Z, Z, Z, Z, Z, Z, Z, Z, Z, Z, Z, Z, Z, Z, Z, Z, Z, Z, Z], []⟩
noncomputable abbrev q_i_isSorted_Function_l1 (s0 : List TFunction) (k : List Fr) (t : (Unit ⊕ Bool)) : Option Res := match t with | .inl t => bk T (enF [.tmp 4] []) k ⟨[.d (D.sl false 4 (List.map (TFunction.e false) s0)), .d (D.fn 147 []), Z, Z, Z, Z, Z, Z, Z, Z, Z, Z, Z, Z, Z, Z, Z, Z, Z, Z, Z, Z, Z, Z, Z, Z], []⟩ | .inr t => some (D.bool t, [], [])
theorem p_i_isSorted_Function_l1 (s0 : List TFunction) : ∀ (s5 : Int) (k : List Fr), Le (q_i_isSorted_Function_l1 s0 k) (i_isSorted_Function_l1 s0 s5) (x_i_isSorted_Function_l1 s0 s5 k) := by
  intro s5 k
  refine Le.cp (X := x_i_isSorted_Function_l1 s0 s5) (Q := q_i_isSorted_Function_l1 s0) ?_ k
  refine i_isSorted_Function_l1.partial_correctness s0 (motive := fun s5 r => ∀ k : List Fr, x_i_isSorted_Function_l1 s0 s5 k = q_i_isSorted_Function_l1 s0 k r) ?_ s5
  intro rec hrec s5
  refine Le.pc ?_
  intro k
  unfold x_i_isSorted_Function_l1 v146_m1
  repeat' (try conv => arg 3; simp (maxSteps := 999999) only [sx, ty, ↓reduceIte, reduceCtorEq, Nat.reduceAdd, Nat.reduceSub, Nat.reduceLeDiff, Nat.reduceEqDiff, Nat.reduceLT, Nat.reduceMul, Nat.reduceBNe, List.reduceReplicate, Int.reduceLE, Int.reduceLT, Int.reduceEq, Int.reduceToNat, Int.reduceNeg, *, w146_1]); first
    | refine Le.dcall (g_i_nameOfFunction _) fun _ _ => ?_
    | with_reducible refine Le.idx fun _ _ _ _ => ?_
    | with_reducible refine Le.bool (fun _ => ?_) (fun _ => ?_)
    | ((with_reducible refine Le.ret ?_); exact rfl)
    | with_reducible refine Le.itq (fun _ => ?_) (fun _ => ?_)
    | exact fun r hr => hrec _ r hr k

theorem g_i_isSorted_Function (p0 : List TFunction) : Le (fun r => some (D.bool r, [], [])) (i_isSorted_Function p0) (vcall T 146 [D.sl false 4 (List.map (TFunction.e false) p0), D.fn 147 []] []) := by
  unfold i_isSorted_Function
  refine Le.enter (g := v146) rfl rfl rfl rfl ?_
  repeat' (try conv => arg 3; simp (maxSteps := 999999) only [sx, ty, ↓reduceIte, reduceCtorEq, Nat.reduceAdd, Nat.reduceSub, Nat.reduceLeDiff, Nat.reduceEqDiff, Nat.reduceLT, Nat.reduceMul, Nat.reduceBNe, List.reduceReplicate, Int.reduceLE, Int.reduceLT, Int.reduceEq, Int.reduceToNat, Int.reduceNeg, *, w146_1, v146, v146_b]); first
    | (refine Le.via (p_i_isSorted_Function_l1 _ _ _) fun t _ => ?_; rcases t with t | t <;> try dsimp only [q_i_isSorted_Function_l1])
    | ((with_reducible refine Le.ret ?_); exact rfl)

-- impl.nameOfType
theorem g_i_nameOfType (p0 : TRecordType) : Le (fun r => some (D.str r, [], [])) (i_nameOfType p0) (vcall T 149 [D.agg [D.str p0.Name, D.sl false 1 (List.map D.str p0.Fields)]] []) := by
  unfold i_nameOfType
  refine Le.enter (g := v149) rfl rfl rfl rfl ?_
  try conv => arg 3; simp (maxSteps := 999999) only [sx, ty, ↓reduceIte, reduceCtorEq, Nat.reduceAdd, Nat.reduceSub, Nat.reduceLeDiff, Nat.reduceEqDiff, Nat.reduceLT, Nat.reduceMul, Nat.reduceBNe, List.reduceReplicate, Int.reduceLE, Int.reduceLT, Int.reduceEq, Int.reduceToNat, Int.reduceNeg, *, v149, v149_b]
  ((with_reducible refine Le.ret ?_); exact rfl)

-- impl.isSorted[impl.RecordType]
noncomputable abbrev x_i_isSorted_RecordType_l1 (s0 : List TRecordType) (s5 : Int) (k : List Fr) : Option Res := go T (enF [.tmp 4] []) v148_m1 (.lp v148_l1 :: .bl 0 :: .sq (.clr [4,5,6,7,8,9,10,11,12,13,14,15,16,17,18,19,20,21,22,23,24,25]) :: k) ⟨[.d (D.sl false 2 (List.map (TRecordType.e false) s0)), .d (D.fn 149 []), Z, Z, Z, .d (D.int .i64 s5), Z, Z, Z, Z, Z, Z, Z, Z, Z, Z, Z, Z, Z, Z, Z, Z, Z, Z, Z, Z], []⟩
noncomputable abbrev q_i_isSorted_RecordType_l1 (s0 : List TRecordType) (k : List Fr) (t : (Unit ⊕ Bool)) : Option Res := match t with | .inl t => bk T (enF [.tmp 4] []) k ⟨[.d (D.sl false 2 (List.map (TRecordType.e false) s0)), .d (D.fn 149 []), Z, Z, Z, Z, Z, Z, Z, Z, Z, Z, Z, Z, Z, Z, Z, Z, Z, Z, Z, Z, Z, Z, Z, Z], []⟩ | .inr t => some (D.bool t, [], [])
theorem p_i_isSorted_RecordType_l1 (s0 : List TRecordType) : ∀ (s5 : Int) (k : List Fr), Le (q_i_isSorted_RecordType_l1 s0 k) (i_isSorted_RecordType_l1 s0 s5) (x_i_isSorted_RecordType_l1 s0 s5 k) := by
  intro s5 k
  refine Le.cp (X := x_i_isSorted_RecordType_l1 s0 s5) (Q := q_i_isSorted_RecordType_l1 s0) ?_ k
  refine i_isSorted_RecordType_l1.partial_correctness s0 (motive := fun s5 r => ∀ k : List Fr, x_i_isSorted_RecordType_l1 s0 s5 k = q_i_isSorted_RecordType_l1 s0 k r) ?_ s5
  intro rec hrec s5
  refine Le.pc ?_
  intro k
  unfold x_i_isSorted_RecordType_l1 v148_m1
  repeat' (try conv => arg 3; simp (maxSteps := 999999) only [sx, ty, ↓reduceIte, reduceCtorEq, Nat.reduceAdd, Nat.reduceSub, Nat.reduceLeDiff, Nat.reduceEqDiff, Nat.reduceLT, Nat.reduceMul, Nat.reduceBNe, List.reduceReplicate, Int.reduceLE, Int.reduceLT, Int.reduceEq, Int.reduceToNat, Int.reduceNeg, *, w148_1]); first
    | refine Le.dcall (g_i_nameOfType _) fun _ _ => ?_
    | with_reducible refine Le.idx fun _ _ _ _ => ?_
    | with_reducible refine Le.bool (fun _ => ?_) (fun _ => ?_)
    | ((with_reducible refine Le.ret ?_); exact rfl)
    | with_reducible refine Le.itq (fun _ => ?_) (fun _ => ?_)
    | exact fun r hr => hrec _ r hr k

theorem g_i_isSorted_RecordType (p0 : List TRecordType) : Le (fun r => some (D.bool r, [], [])) (i_isSorted_RecordType p0) (vcall T 148 [D.sl false 2 (List.map (TRecordType.e false) p0), D.fn 149 []] []) := by
  unfold i_isSorted_RecordType
  refine Le.enter (g := v148) rfl rfl rfl rfl ?_
  repeat' (try conv => arg 3; simp (maxSteps := 999999) only [sx, ty, ↓reduceIte, reduceCtorEq, Nat.reduceAdd, Nat.reduceSub, Nat.reduceLeDiff, Nat.reduceEqDiff, Nat.reduceLT, Nat.reduceMul, Nat.reduceBNe, List.reduceReplicate, Int.reduceLE, Int.reduceLT, Int.reduceEq, Int.reduceToNat, Int.reduceNeg, *, w148_1, v148, v148_b]); first
    | (refine Le.via (p_i_isSorted_RecordType_l1 _ _ _) fun t _ => ?_; rcases t with t | t <;> try dsimp only [q_i_isSorted_RecordType_l1])
    | ((with_reducible refine Le.ret ?_); exact rfl)

-- impl.isLetter
theorem g_i_isLetter (p0 : Int) : Le (fun r => some (D.bool r, [], [])) (i_isLetter p0) (vcall T 156 [D.int .u8 p0] []) := by
  unfold i_isLetter
  refine Le.enter (g := v156) rfl rfl rfl rfl ?_
  repeat' (try conv => arg 3; simp (maxSteps := 999999) only [sx, ty, ↓reduceIte, reduceCtorEq, Nat.reduceAdd, Nat.reduceSub, Nat.reduceLeDiff, Nat.reduceEqDiff, Nat.reduceLT, Nat.reduceMul, Nat.reduceBNe, List.reduceReplicate, Int.reduceLE, Int.reduceLT, Int.reduceEq, Int.reduceToNat, Int.reduceNeg, *, v156, v156_b]); first
    | ((with_reducible refine Le.ret ?_); exact rfl)
    | with_reducible refine Le.itq (fun _ => ?_) (fun _ => ?_)

-- impl.isDigit
theorem g_i_isDigit (p0 : Int) : Le (fun r => some (D.bool r, [], [])) (i_isDigit p0) (vcall T 208 [D.int .u8 p0] []) := by
  unfold i_isDigit
  refine Le.enter (g := v208) rfl rfl rfl rfl ?_
  repeat' (try conv => arg 3; simp (maxSteps := 999999) only [sx, ty, ↓reduceIte, reduceCtorEq, Nat.reduceAdd, Nat.reduceSub, Nat.reduceLeDiff, Nat.reduceEqDiff, Nat.reduceLT, Nat.reduceMul, Nat.reduceBNe, List.reduceReplicate, Int.reduceLE, Int.reduceLT, Int.reduceEq, Int.reduceToNat, Int.reduceNeg, *, v208, v208_b]); first
    | ((with_reducible refine Le.ret ?_); exact rfl)
    | with_reducible refine Le.itq (fun _ => ?_) (fun _ => ?_)

-- impl.isNameByte
theorem g_i_isNameByte (p0 : Int) : Le (fun r => some (D.bool r, [], [])) (i_isNameByte p0) (vcall T 158 [D.int .u8 p0] []) := by
  unfold i_isNameByte
  refine Le.enter (g := v158) rfl rfl rfl rfl ?_
  repeat' (try conv => arg 3; simp (maxSteps := 999999) only [sx, ty, ↓reduceIte, reduceCtorEq, Nat.reduceAdd, Nat.reduceSub, Nat.reduceLeDiff, Nat.reduceEqDiff, Nat.reduceLT, Nat.reduceMul, Nat.reduceBNe, List.reduceReplicate, Int.reduceLE, Int.reduceLT, Int.reduceEq, Int.reduceToNat, Int.reduceNeg, *, v158, v158_b]); first
    | refine Le.call (g_i_isLetter _) fun _ _ => ?_
    | refine Le.call (g_i_isDigit _) fun _ _ => ?_
    | with_reducible refine Le.bool (fun _ => ?_) (fun _ => ?_)
    | ((with_reducible refine Le.ret ?_); exact rfl)

-- impl.areAll[byte]
noncomputable abbrev x_i_areAll_byte_l1 (s0 : List Int) (s7 : List Int) (s8 : Int) (s9 : Int) (k : List Fr) : Option Res := go T (enF [.tmp 4] []) v157_m1 (.lp v157_l1 :: .bl 0 :: .sq (.clr [4,6,7,8,9,10,11,12,13,14,15,16,17]) :: k) ⟨[.d (D.sl false 1 (List.map (D.int .u8) s0)), .d (D.fn 158 []), Z, Z, Z, Z, Z, .d (D.sl false 1 (List.map (D.int .u8) s7)), .d (D.int .i64 s8), .d (D.int .i64 s9), Z, Z, Z, Z, Z, Z, Z, Z], []⟩
noncomputable abbrev q_i_areAll_byte_l1 (s0 : List Int) (s7 : List Int) (s8 : Int) (k : List Fr) (t : (Unit ⊕ Bool)) : Option Res := match t with | .inl t => bk T (enF [.tmp 4] []) k ⟨[.d (D.sl false 1 (List.map (D.int .u8) s0)), .d (D.fn 158 []), Z, Z, Z, Z, Z, Z, Z, Z, Z, Z, Z, Z, Z, Z, Z, Z], []⟩ | .inr t => some (D.bool t, [], [])
theorem p_i_areAll_byte_l1 (s0 : List Int) (s7 : List Int) (s8 : Int) : ∀ (s9 : Int) (k : List Fr), Le (q_i_areAll_byte_l1 s0 s7 s8 k) (i_areAll_byte_l1 s0 s7 s8 s9) (x_i_areAll_byte_l1 s0 s7 s8 s9 k) := by
  intro s9 k
  refine Le.cp (X := x_i_areAll_byte_l1 s0 s7 s8 s9) (Q := q_i_areAll_byte_l1 s0 s7 s8) ?_ k
  refine i_areAll_byte_l1.partial_correctness s0 s7 s8 (motive := fun s9 r => ∀ k : List Fr, x_i_areAll_byte_l1 s0 s7 s8 s9 k = q_i_areAll_byte_l1 s0 s7 s8 k r) ?_ s9
  intro rec hrec s9
  refine Le.pc ?_
  intro k
  unfold x_i_areAll_byte_l1 v157_m1
  repeat' (try conv => arg 3; simp (maxSteps := 999999) only [sx, ty, ↓reduceIte, reduceCtorEq, Nat.reduceAdd, Nat.reduceSub, Nat.reduceLeDiff, Nat.reduceEqDiff, Nat.reduceLT, Nat.reduceMul, Nat.reduceBNe, List.reduceReplicate, Int.reduceLE, Int.reduceLT, Int.reduceEq, Int.reduceToNat, Int.reduceNeg, *, w157_1]); first
    | refine Le.call (g_i_isNameByte _) fun _ _ => ?_
    | with_reducible refine Le.idx fun _ _ _ _ => ?_
    | with_reducible refine Le.bool (fun _ => ?_) (fun _ => ?_)
    | ((with_reducible refine Le.ret ?_); exact rfl)
    | with_reducible refine Le.itq (fun _ => ?_) (fun _ => ?_)
    | exact fun r hr => hrec _ r hr k

theorem g_i_areAll_byte (p0 : List Int) : Le (fun r => some (D.bool r, [], [])) (i_areAll_byte p0) (vcall T 157 [D.sl false 1 (List.map (D.int .u8) p0), D.fn 158 []] []) := by
  unfold i_areAll_byte
  refine Le.enter (g := v157) rfl rfl rfl rfl ?_
  repeat' (try conv => arg 3; simp (maxSteps := 999999) only [sx, ty, ↓reduceIte, reduceCtorEq, Nat.reduceAdd, Nat.reduceSub, Nat.reduceLeDiff, Nat.reduceEqDiff, Nat.reduceLT, Nat.reduceMul, Nat.reduceBNe, List.reduceReplicate, Int.reduceLE, Int.reduceLT, Int.reduceEq, Int.reduceToNat, Int.reduceNeg, *, w157_1, v157, v157_b]); first
    | (refine Le.via (p_i_areAll_byte_l1 _ _ _ _ _) fun t _ => ?_; rcases t with t | t <;> try dsimp only [q_i_areAll_byte_l1])
    | ((with_reducible refine Le.ret ?_); exact rfl)

-- impl.IsName
theorem g_i_IsName (p0 : ByteArray) : Le (fun r => some (D.bool r, [], [])) (i_IsName p0) (vcall T 74 [D.str p0] []) := by
  unfold i_IsName
  refine Le.enter (g := v74) rfl rfl rfl rfl ?_
  repeat' (try conv => arg 3; simp (maxSteps := 999999) only [sx, ty, ↓reduceIte, reduceCtorEq, Nat.reduceAdd, Nat.reduceSub, Nat.reduceLeDiff, Nat.reduceEqDiff, Nat.reduceLT, Nat.reduceMul, Nat.reduceBNe, List.reduceReplicate, Int.reduceLE, Int.reduceLT, Int.reduceEq, Int.reduceToNat, Int.reduceNeg, *, v74, v74_b]); first
    | refine Le.call (g_i_isLetter _) fun _ _ => ?_
    | refine Le.call (g_i_areAll_byte _) fun _ _ => ?_
    | with_reducible refine Le.idxBN fun _ _ _ => ?_
    | with_reducible refine Le.bool (fun _ => ?_) (fun _ => ?_)
    | ((with_reducible refine Le.ret ?_); exact rfl)
    | with_reducible refine Le.itq (fun _ => ?_) (fun _ => ?_)

-- impl.within
theorem g_i_within (p0 : Int) (p1 : Int) (p2 : Int) : Le (fun r => some (D.bool r, [], [])) (i_within p0 p1 p2) (vcall T 178 [D.int .i64 p0, D.int .i64 p1, D.int .i64 p2] []) := by
  unfold i_within
  refine Le.enter (g := v178) rfl rfl rfl rfl ?_
  repeat' (try conv => arg 3; simp (maxSteps := 999999) only [sx, ty, ↓reduceIte, reduceCtorEq, Nat.reduceAdd, Nat.reduceSub, Nat.reduceLeDiff, Nat.reduceEqDiff, Nat.reduceLT, Nat.reduceMul, Nat.reduceBNe, List.reduceReplicate, Int.reduceLE, Int.reduceLT, Int.reduceEq, Int.reduceToNat, Int.reduceNeg, *, v178, v178_b]); first
    | ((with_reducible refine Le.ret ?_); exact rfl)
    | with_reducible refine Le.itq (fun _ => ?_) (fun _ => ?_)

-- impl.isObjectId
theorem g_i_isObjectId (p0 : Int) : Le (fun r => some (D.bool r, [], [])) (i_isObjectId p0) (vcall T 179 [D.int .i64 p0] []) := by
  unfold i_isObjectId
  refine Le.enter (g := v179) rfl rfl rfl rfl ?_
  repeat' (try conv => arg 3; simp (maxSteps := 999999) only [sx, ty, ↓reduceIte, reduceCtorEq, Nat.reduceAdd, Nat.reduceSub, Nat.reduceLeDiff, Nat.reduceEqDiff, Nat.reduceLT, Nat.reduceMul, Nat.reduceBNe, List.reduceReplicate, Int.reduceLE, Int.reduceLT, Int.reduceEq, Int.reduceToNat, Int.reduceNeg, *, v179, v179_b]); first
    | refine Le.call (g_i_within _ _ _) fun _ _ => ?_
    | ((with_reducible refine Le.ret ?_); exact rfl)

-- impl.ValidValue
noncomputable abbrev x_i_ValidValue_j1 (s1 : TValue) (s65 : Bool) (k : List Fr) : Option Res := go T (enF [.tmp 2] []) v110_j1 k ⟨[Z, .box [D.int .i64 s1.Kind, D.int .i64 s1.Num, D.str s1.Text, D.int .i64 s1.Ref], Z, Z, Z, Z, Z, Z, Z, Z, Z, Z, Z, Z, Z, Z, Z, Z, Z, Z, Z, Z, Z, Z, Z, Z, Z, Z, Z, Z, Z, Z, Z, Z, Z, Z, Z, Z, Z, Z, Z, Z, Z, Z, Z, Z, Z, Z, Z, Z, Z, Z, Z, Z, Z, Z, Z, Z, Z, Z, Z, Z, Z, Z, Z, .d (D.bool s65), Z, Z, Z, Z, Z, Z, Z, Z, Z, Z, Z, Z, Z, Z], []⟩
noncomputable abbrev q_i_ValidValue_j1 (s1 : TValue) (s65 : Bool) (k : List Fr) (t : (Bool ⊕ Bool)) : Option Res := match t with | .inl t => bk T (enF [.tmp 2] []) k ⟨[Z, .box [D.int .i64 s1.Kind, D.int .i64 s1.Num, D.str s1.Text, D.int .i64 s1.Ref], Z, Z, Z, Z, Z, Z, Z, Z, Z, Z, Z, Z, Z, Z, Z, Z, Z, Z, Z, Z, Z, Z, Z, Z, Z, Z, Z, Z, Z, Z, Z, Z, Z, Z, Z, Z, Z, Z, Z, Z, Z, Z, Z, Z, Z, Z, Z, Z, Z, Z, Z, Z, Z, Z, Z, Z, Z, Z, Z, Z, Z, Z, Z, .d (D.bool t), Z, Z, Z, Z, Z, Z, Z, Z, Z, Z, Z, Z, Z, Z], []⟩ | .inr t => some (D.bool t, [], [])
theorem p_i_ValidValue_j1 (s1 : TValue) (s65 : Bool) (k : List Fr) : Le (q_i_ValidValue_j1 s1 s65 k) (i_ValidValue_j1 s1 s65) (x_i_ValidValue_j1 s1 s65 k) := by
  unfold i_ValidValue_j1 x_i_ValidValue_j1 v110_j1
  repeat' (try conv => arg 3; simp (maxSteps := 999999) only [sx, ty, ↓reduceIte, reduceCtorEq, Nat.reduceAdd, Nat.reduceSub, Nat.reduceLeDiff, Nat.reduceEqDiff, Nat.reduceLT, Nat.reduceMul, Nat.reduceBNe, List.reduceReplicate, Int.reduceLE, Int.reduceLT, Int.reduceEq, Int.reduceToNat, Int.reduceNeg, *]); first
    | refine Le.call (g_i_IsName _) fun _ _ => ?_
    | with_reducible refine Le.bool (fun _ => ?_) (fun _ => ?_)
    | ((with_reducible refine Le.ret ?_); exact rfl)
    | with_reducible refine Le.itq (fun _ => ?_) (fun _ => ?_)

noncomputable abbrev x_i_ValidValue_j2 (s1 : TValue) (s4 : Int) (s49 : Bool) (k : List Fr) : Option Res := go T (enF [.tmp 2] []) v110_j2 k ⟨[Z, .box [D.int .i64 s1.Kind, D.int .i64 s1.Num, D.str s1.Text, D.int .i64 s1.Ref], Z, Z, .d (D.int .i64 s4), Z, Z, Z, Z, Z, Z, Z, Z, Z, Z, Z, Z, Z, Z, Z, Z, Z, Z, Z, Z, Z, Z, Z, Z, Z, Z, Z, Z, Z, Z, Z, Z, Z, Z, Z, Z, Z, Z, Z, Z, Z, Z, Z, Z, .d (D.bool s49), Z, Z, Z, Z, Z, Z, Z, Z, Z, Z, Z, Z, Z, Z, Z, Z, Z, Z, Z, Z, Z, Z, Z, Z, Z, Z, Z, Z, Z, Z], []⟩
noncomputable abbrev q_i_ValidValue_j2 (s1 : TValue) (s4 : Int) (s49 : Bool) (k : List Fr) (t : (Bool ⊕ Bool)) : Option Res := match t with | .inl t => bk T (enF [.tmp 2] []) k ⟨[Z, .box [D.int .i64 s1.Kind, D.int .i64 s1.Num, D.str s1.Text, D.int .i64 s1.Ref], Z, Z, Z, Z, Z, Z, Z, Z, Z, Z, Z, Z, Z, Z, Z, Z, Z, Z, Z, Z, Z, Z, Z, Z, Z, Z, Z, Z, Z, Z, Z, Z, Z, Z, Z, Z, Z, Z, Z, Z, Z, Z, Z, Z, Z, Z, Z, Z, Z, Z, Z, Z, Z, Z, Z, Z, Z, Z, Z, Z, Z, Z, Z, .d (D.bool t), Z, Z, Z, Z, Z, Z, Z, Z, Z, Z, Z, Z, Z, Z], []⟩ | .inr t => some (D.bool t, [], [])
theorem p_i_ValidValue_j2 (s1 : TValue) (s4 : Int) (s49 : Bool) (k : List Fr) : Le (q_i_ValidValue_j2 s1 s4 s49 k) (i_ValidValue_j2 s1 s4 s49) (x_i_ValidValue_j2 s1 s4 s49 k) := by
  unfold i_ValidValue_j2 x_i_ValidValue_j2 v110_j2
  repeat' (try conv => arg 3; simp (maxSteps := 999999) only [sx, ty, ↓reduceIte, reduceCtorEq, Nat.reduceAdd, Nat.reduceSub, Nat.reduceLeDiff, Nat.reduceEqDiff, Nat.reduceLT, Nat.reduceMul, Nat.reduceBNe, List.reduceReplicate, Int.reduceLE, Int.reduceLT, Int.reduceEq, Int.reduceToNat, Int.reduceNeg, *]); first
    | refine Le.call (g_i_isObjectId _) fun _ _ => ?_
    | (refine Le.via (p_i_ValidValue_j1 _ _ _) fun t _ => ?_; rcases t with t | t <;> try dsimp only [q_i_ValidValue_j1])
    | with_reducible refine Le.bool (fun _ => ?_) (fun _ => ?_)
    | ((with_reducible refine Le.ret ?_); exact rfl)
    | with_reducible refine Le.itq (fun _ => ?_) (fun _ => ?_)

theorem g_i_ValidValue (p0 : TValue) : Le (fun r => some (D.bool r, [], [])) (i_ValidValue p0) (vcall T 110 [D.agg [D.int .i64 p0.Kind, D.int .i64 p0.Num, D.str p0.Text, D.int .i64 p0.Ref]] []) := by
  unfold i_ValidValue
  refine Le.enter (g := v110) rfl rfl rfl rfl ?_
  repeat' (try conv => arg 3; simp (maxSteps := 999999) only [sx, ty, ↓reduceIte, reduceCtorEq, Nat.reduceAdd, Nat.reduceSub, Nat.reduceLeDiff, Nat.reduceEqDiff, Nat.reduceLT, Nat.reduceMul, Nat.reduceBNe, List.reduceReplicate, Int.reduceLE, Int.reduceLT, Int.reduceEq, Int.reduceToNat, Int.reduceNeg, *, v110, v110_b]); first
    | refine Le.call (g_i_within _ _ _) fun _ _ => ?_
    | (refine Le.via (p_i_ValidValue_j2 _ _ _ _) fun t _ => ?_; rcases t with t | t <;> try dsimp only [q_i_ValidValue_j2])
    | ((with_reducible refine Le.ret ?_); exact rfl)
    | with_reducible refine Le.itq (fun _ => ?_) (fun _ => ?_)

-- impl.textOf
theorem g_i_textOf (p0 : ByteArray) : Le (fun r => some (D.agg [D.int .i64 r.Kind, D.int .i64 r.Num, D.str r.Text, D.int .i64 r.Ref], [], [])) (i_textOf p0) (vcall T 102 [D.str p0] []) := by
  unfold i_textOf
  refine Le.enter (g := v102) rfl rfl rfl rfl ?_
  try conv => arg 3; simp (maxSteps := 999999) only [sx, ty, ↓reduceIte, reduceCtorEq, Nat.reduceAdd, Nat.reduceSub, Nat.reduceLeDiff, Nat.reduceEqDiff, Nat.reduceLT, Nat.reduceMul, Nat.reduceBNe, List.reduceReplicate, Int.reduceLE, Int.reduceLT, Int.reduceEq, Int.reduceToNat, Int.reduceNeg, *, v102, v102_b]
  ((with_reducible refine Le.ret ?_); exact rfl)

-- impl.null
theorem g_i_null : Le (fun r => some (D.agg [D.int .i64 r.Kind, D.int .i64 r.Num, D.str r.Text, D.int .i64 r.Ref], [], [])) (i_null) (vcall T 103 [] []) := by
  unfold i_null
  refine Le.enter (g := v103) rfl rfl rfl rfl ?_
  repeat' (try conv => arg 3; simp (maxSteps := 999999) only [sx, ty, ↓reduceIte, reduceCtorEq, Nat.reduceAdd, Nat.reduceSub, Nat.reduceLeDiff, Nat.reduceEqDiff, Nat.reduceLT, Nat.reduceMul, Nat.reduceBNe, List.reduceReplicate, Int.reduceLE, Int.reduceLT, Int.reduceEq, Int.reduceToNat, Int.reduceNeg, *, v103, v103_b]); first
    | refine Le.call (g_i_textOf _) fun _ _ => ?_
    | ((with_reducible refine Le.ret ?_); exact rfl)

-- impl.IsNull
theorem g_i_IsNull (p0 : TValue) : Le (fun r => some (D.bool r, [], [])) (i_IsNull p0) (vcall T 181 [D.agg [D.int .i64 p0.Kind, D.int .i64 p0.Num, D.str p0.Text, D.int .i64 p0.Ref]] []) := by
  unfold i_IsNull
  refine Le.enter (g := v181) rfl rfl rfl rfl ?_
  repeat' (try conv => arg 3; simp (maxSteps := 999999) only [sx, ty, ↓reduceIte, reduceCtorEq, Nat.reduceAdd, Nat.reduceSub, Nat.reduceLeDiff, Nat.reduceEqDiff, Nat.reduceLT, Nat.reduceMul, Nat.reduceBNe, List.reduceReplicate, Int.reduceLE, Int.reduceLT, Int.reduceEq, Int.reduceToNat, Int.reduceNeg, *, v181, v181_b]); first
    | refine Le.dcall (g_i_null) fun _ _ => ?_
    | ((with_reducible refine Le.ret ?_); exact rfl)

-- (impl.Binding).isValid
theorem g_i_Binding_isValid (p0 : TBinding) : Le (fun r => some (D.bool r, [], [])) (i_Binding_isValid p0) (vcall T 151 [D.agg [D.str p0.Name, D.int .i64 p0.Value.Kind, D.int .i64 p0.Value.Num, D.str p0.Value.Text, D.int .i64 p0.Value.Ref]] []) := by
  unfold i_Binding_isValid
  refine Le.enter (g := v151) rfl rfl rfl rfl ?_
  repeat' (try conv => arg 3; simp (maxSteps := 999999) only [sx, ty, ↓reduceIte, reduceCtorEq, Nat.reduceAdd, Nat.reduceSub, Nat.reduceLeDiff, Nat.reduceEqDiff, Nat.reduceLT, Nat.reduceMul, Nat.reduceBNe, List.reduceReplicate, Int.reduceLE, Int.reduceLT, Int.reduceEq, Int.reduceToNat, Int.reduceNeg, *, v151, v151_b]); first
    | refine Le.call (g_i_IsName _) fun _ _ => ?_
    | refine Le.call (g_i_ValidValue _) fun _ _ => ?_
    | refine Le.call (g_i_IsNull _) fun _ _ => ?_
    | with_reducible refine Le.bool (fun _ => ?_) (fun _ => ?_)
    | ((with_reducible refine Le.ret ?_); exact rfl)

-- impl.areAll[impl.Binding]
noncomputable abbrev x_i_areAll_Binding_l1 (s0 : List TBinding) (s7 : List TBinding) (s8 : Int) (s9 : Int) (k : List Fr) : Option Res := go T (enF [.tmp 4] []) v150_m1 (.lp v150_l1 :: .bl 0 :: .sq (.clr [4,6,7,8,9,10,11,12,13,14,15,16,17]) :: k) ⟨[.d (D.sl false 5 (List.map (TBinding.e false) s0)), .d (D.fn 151 []), Z, Z, Z, Z, Z, .d (D.sl false 5 (List.map (TBinding.e false) s7)), .d (D.int .i64 s8), .d (D.int .i64 s9), Z, Z, Z, Z, Z, Z, Z, Z], []⟩
noncomputable abbrev q_i_areAll_Binding_l1 (s0 : List TBinding) (s7 : List TBinding) (s8 : Int) (k : List Fr) (t : (Unit ⊕ Bool)) : Option Res := match t with | .inl t => bk T (enF [.tmp 4] []) k ⟨[.d (D.sl false 5 (List.map (TBinding.e false) s0)), .d (D.fn 151 []), Z, Z, Z, Z, Z, Z, Z, Z, Z, Z, Z, Z, Z, Z, Z, Z], []⟩ | .inr t => some (D.bool t, [], [])
theorem p_i_areAll_Binding_l1 (s0 : List TBinding) (s7 : List TBinding) (s8 : Int) : ∀ (s9 : Int) (k : List Fr), Le (q_i_areAll_Binding_l1 s0 s7 s8 k) (i_areAll_Binding_l1 s0 s7 s8 s9) (x_i_areAll_Binding_l1 s0 s7 s8 s9 k) := by
  intro s9 k
  refine Le.cp (X := x_i_areAll_Binding_l1 s0 s7 s8 s9) (Q := q_i_areAll_Binding_l1 s0 s7 s8) ?_ k
  refine i_areAll_Binding_l1.partial_correctness s0 s7 s8 (motive := fun s9 r => ∀ k : List Fr, x_i_areAll_Binding_l1 s0 s7 s8 s9 k = q_i_areAll_Binding_l1 s0 s7 s8 k r) ?_ s9
  intro rec hrec s9
  refine Le.pc ?_
  intro k
  unfold x_i_areAll_Binding_l1 v150_m1
  repeat' (try conv => arg 3; simp (maxSteps := 999999) only [sx, ty, ↓reduceIte, reduceCtorEq, Nat.reduceAdd, Nat.reduceSub, Nat.reduceLeDiff, Nat.reduceEqDiff, Nat.reduceLT, Nat.reduceMul, Nat.reduceBNe, List.reduceReplicate, Int.reduceLE, Int.reduceLT, Int.reduceEq, Int.reduceToNat, Int.reduceNeg, *, w150_1]); first
    | refine Le.call (g_i_Binding_isValid _) fun _ _ => ?_
    | with_reducible refine Le.idx fun _ _ _ _ => ?_
    | with_reducible refine Le.bool (fun _ => ?_) (fun _ => ?_)
    | ((with_reducible refine Le.ret ?_); exact rfl)
    | with_reducible refine Le.itq (fun _ => ?_) (fun _ => ?_)
    | exact fun r hr => hrec _ r hr k

theorem g_i_areAll_Binding (p0 : List TBinding) : Le (fun r => some (D.bool r, [], [])) (i_areAll_Binding p0) (vcall T 150 [D.sl false 5 (List.map (TBinding.e false) p0), D.fn 151 []] []) := by
  unfold i_areAll_Binding
  refine Le.enter (g := v150) rfl rfl rfl rfl ?_
  repeat' (try conv => arg 3; simp (maxSteps := 999999) only [sx, ty, ↓reduceIte, reduceCtorEq, Nat.reduceAdd, Nat.reduceSub, Nat.reduceLeDiff, Nat.reduceEqDiff, Nat.reduceLT, Nat.reduceMul, Nat.reduceBNe, List.reduceReplicate, Int.reduceLE, Int.reduceLT, Int.reduceEq, Int.reduceToNat, Int.reduceNeg, *, w150_1, v150, v150_b]); first
    | (refine Le.via (p_i_areAll_Binding_l1 _ _ _ _ _) fun t _ => ?_; rcases t with t | t <;> try dsimp only [q_i_areAll_Binding_l1])
    | ((with_reducible refine Le.ret ?_); exact rfl)

-- slices.Concat[[]string,string]
theorem c_slices_Concat_string_string_g0 (sto : List (List D)) : vcall T 243 [.nils 1, .int .i64 0] sto = some (.nils 1, [], sto) := by
  rw [vcall_go T (g := v243) rfl rfl rfl _ _ rfl]
  simp (maxSteps := 9999999) (disch := omega) only [vx, px, ty, ↓reduceIte, Bool.false_eq_true, reduceCtorEq, Nat.reduceAdd, Nat.reduceSub, Nat.reduceLeDiff, Nat.reduceEqDiff, Nat.reduceLT, Nat.reduceMul, List.reduceReplicate, and_true, true_and, and_false, false_and, and_self, or_true, true_or, or_false, false_or, not_true_eq_false, not_false_eq_true, ne_eq, vxd, Nat.reduceBNe, most, ifT, ifF, v243, v243_b, Int.reduceToNat, Int.toNat_zero, getAt.eq_3]
theorem c_slices_Concat_string_string_gp (n : Int) (sto : List (List D)) (h : 0 < n) (h2 : n ≤ 2147483648) : vcall T 243 [.nils 1, .int .i64 n] sto = some (.sl true 1 [], [], sto) := by
  rw [vcall_go T (g := v243) rfl rfl rfl _ _ rfl]
  simp (maxSteps := 9999999) (disch := omega) only [vx, px, ty, ↓reduceIte, Bool.false_eq_true, reduceCtorEq, Nat.reduceAdd, Nat.reduceSub, Nat.reduceLeDiff, Nat.reduceEqDiff, Nat.reduceLT, Nat.reduceMul, List.reduceReplicate, and_true, true_and, and_false, false_and, and_self, or_true, true_or, or_false, false_or, not_true_eq_false, not_false_eq_true, ne_eq, vxd, Nat.reduceBNe, most, ifT, ifF, v243, v243_b, Int.reduceToNat, Int.toNat_zero, getAt.eq_3, zerosD_len, Int.sub_zero]
theorem c_slices_Concat_string_string (a b : List ByteArray) (sto : List (List D)) (h : a.length + b.length ≤ 2147483648) : vcall T 207 [.sl false 1 [.sl false 1 (a.map D.str), .sl false 1 (b.map D.str)]] sto = some (.sl true 1 ((a ++ b).map D.str), [], sto) := by
  by_cases h0 : a.length + b.length = 0
  · obtain rfl : a = [] := List.length_eq_zero_iff.1 (by omega)
    obtain rfl : b = [] := List.length_eq_zero_iff.1 (by omega)
    have e0 : ((0 : Nat) : Int) + ((0 : Nat) : Int) = 0 := rfl
    rw [vcall_go T (g := v207) rfl rfl rfl _ _ rfl]
    simp (maxSteps := 9999999) (disch := omega) only [vx, px, ty, ↓reduceIte, Bool.false_eq_true, reduceCtorEq, Nat.reduceAdd, Nat.reduceSub, Nat.reduceLeDiff, Nat.reduceEqDiff, Nat.reduceLT, Nat.reduceMul, List.reduceReplicate, and_true, true_and, and_false, false_and, and_self, or_true, true_or, or_false, false_or, not_true_eq_false, not_false_eq_true, ne_eq, vxd, Nat.reduceBNe, most, ifT, ifF, v207, v207_b, w207_1, v207_m1, w207_2, v207_m2, List.length_map, c_slices_Concat_string_string_g0, Int.reduceToNat, Int.toNat_zero, getAt.eq_3, Int.add_zero, Int.zero_add, Int.reduceAdd, e0]
  · rw [List.map_append]
    have e1 := fun sto => c_slices_Concat_string_string_gp ((a.length : Int) + (b.length : Int)) sto (by omega) (by omega)
    rw [vcall_go T (g := v207) rfl rfl rfl _ _ rfl]
    simp (maxSteps := 9999999) (disch := omega) only [vx, px, ty, ↓reduceIte, Bool.false_eq_true, reduceCtorEq, Nat.reduceAdd, Nat.reduceSub, Nat.reduceLeDiff, Nat.reduceEqDiff, Nat.reduceLT, Nat.reduceMul, List.reduceReplicate, and_true, true_and, and_false, false_and, and_self, or_true, true_or, or_false, false_or, not_true_eq_false, not_false_eq_true, ne_eq, vxd, Nat.reduceBNe, most, ifT, ifF, v207, v207_b, w207_1, v207_m1, w207_2, v207_m2, List.length_map, e1, Int.reduceToNat, Int.reduceAdd, Int.zero_add, Int.toNat_zero, getAt.eq_3]
theorem g_slices_Concat_string_string (a b : List ByteArray) : Le (fun r => some (D.sl true 1 (List.map D.str r), [], [])) (slices_Concat_string_string a b) (vcall T 207 [D.sl false 1 [D.sl false 1 (List.map D.str a), D.sl false 1 (List.map D.str b)]] []) := by
  unfold slices_Concat_string_string
  refine Le.chk fun h => Le.ret ?_
  exact c_slices_Concat_string_string a b [] h
-- impl.areAll[string]
noncomputable abbrev x_i_areAll_string_l1 (s0 : List ByteArray) (s7 : List ByteArray) (s8 : Int) (s9 : Int) (k : List Fr) : Option Res := go T (enF [.tmp 4] []) v73_m1 (.lp v73_l1 :: .bl 0 :: .sq (.clr [4,6,7,8,9,10,11,12,13,14,15,16,17]) :: k) ⟨[.d (D.sl false 1 (List.map D.str s0)), .d (D.fn 74 []), Z, Z, Z, Z, Z, .d (D.sl false 1 (List.map D.str s7)), .d (D.int .i64 s8), .d (D.int .i64 s9), Z, Z, Z, Z, Z, Z, Z, Z], []⟩
noncomputable abbrev q_i_areAll_string_l1 (s0 : List ByteArray) (s7 : List ByteArray) (s8 : Int) (k : List Fr) (t : (Unit ⊕ Bool)) : Option Res := match t with | .inl t => bk T (enF [.tmp 4] []) k ⟨[.d (D.sl false 1 (List.map D.str s0)), .d (D.fn 74 []), Z, Z, Z, Z, Z, Z, Z, Z, Z, Z, Z, Z, Z, Z, Z, Z], []⟩ | .inr t => some (D.bool t, [], [])
theorem p_i_areAll_string_l1 (s0 : List ByteArray) (s7 : List ByteArray) (s8 : Int) : ∀ (s9 : Int) (k : List Fr), Le (q_i_areAll_string_l1 s0 s7 s8 k) (i_areAll_string_l1 s0 s7 s8 s9) (x_i_areAll_string_l1 s0 s7 s8 s9 k) := by
  intro s9 k
  refine Le.cp (X := x_i_areAll_string_l1 s0 s7 s8 s9) (Q := q_i_areAll_string_l1 s0 s7 s8) ?_ k
  refine i_areAll_string_l1.partial_correctness s0 s7 s8 (motive := fun s9 r => ∀ k : List Fr, x_i_areAll_string_l1 s0 s7 s8 s9 k = q_i_areAll_string_l1 s0 s7 s8 k r) ?_ s9
  intro rec hrec s9
  refine Le.pc ?_
  intro k
  unfold x_i_areAll_string_l1 v73_m1
  repeat' (try conv => arg 3; simp (maxSteps := 999999) only [sx, ty, ↓reduceIte, reduceCtorEq, Nat.reduceAdd, Nat.reduceSub, Nat.reduceLeDiff, Nat.reduceEqDiff, Nat.reduceLT, Nat.reduceMul, Nat.reduceBNe, List.reduceReplicate, Int.reduceLE, Int.reduceLT, Int.reduceEq, Int.reduceToNat, Int.reduceNeg, *, w73_1]); first
    | refine Le.call (g_i_IsName _) fun _ _ => ?_
    | with_reducible refine Le.idx fun _ _ _ _ => ?_
    | with_reducible refine Le.bool (fun _ => ?_) (fun _ => ?_)
    | ((with_reducible refine Le.ret ?_); exact rfl)
    | with_reducible refine Le.itq (fun _ => ?_) (fun _ => ?_)
    | exact fun r hr => hrec _ r hr k

theorem g_i_areAll_string (p0 : List ByteArray) : Le (fun r => some (D.bool r, [], [])) (i_areAll_string p0) (vcall T 73 [D.sl false 1 (List.map D.str p0), D.fn 74 []] []) := by
  unfold i_areAll_string
  refine Le.enter (g := v73) rfl rfl rfl rfl ?_
  repeat' (try conv => arg 3; simp (maxSteps := 999999) only [sx, ty, ↓reduceIte, reduceCtorEq, Nat.reduceAdd, Nat.reduceSub, Nat.reduceLeDiff, Nat.reduceEqDiff, Nat.reduceLT, Nat.reduceMul, Nat.reduceBNe, List.reduceReplicate, Int.reduceLE, Int.reduceLT, Int.reduceEq, Int.reduceToNat, Int.reduceNeg, *, w73_1, v73, v73_b]); first
    | (refine Le.via (p_i_areAll_string_l1 _ _ _ _ _) fun t _ => ?_; rcases t with t | t <;> try dsimp only [q_i_areAll_string_l1])
    | ((with_reducible refine Le.ret ?_); exact rfl)

-- slices.Clone[[]string,string]
theorem c_slices_Clone_string_string (xs : List ByteArray) (h : xs.length ≤ 2147483648) : vcall T 161 [.sl false 1 (xs.map D.str)] [] = some (.sl true 1 (xs.map D.str), [], []) := by
  cases xs with
  | nil =>
    rw [vcall_go T (g := v161) rfl rfl rfl _ _ rfl]
    simp (maxSteps := 9999999) (disch := omega) only [vx, px, ty, ↓reduceIte, Bool.false_eq_true, reduceCtorEq, Nat.reduceAdd, Nat.reduceSub, Nat.reduceLeDiff, Nat.reduceEqDiff, Nat.reduceLT, Nat.reduceMul, List.reduceReplicate, and_true, true_and, and_false, false_and, and_self, or_true, true_or, or_false, false_or, not_true_eq_false, not_false_eq_true, ne_eq, vxd, Nat.reduceBNe, most, ifT, ifF, v161, v161_b]
  | cons x xs =>
    rw [List.length_cons] at h
    rw [vcall_go T (g := v161) rfl rfl rfl _ _ rfl]
    simp (maxSteps := 9999999) (disch := omega) only [vx, px, ty, ↓reduceIte, Bool.false_eq_true, reduceCtorEq, Nat.reduceAdd, Nat.reduceSub, Nat.reduceLeDiff, Nat.reduceEqDiff, Nat.reduceLT, Nat.reduceMul, List.reduceReplicate, and_true, true_and, and_false, false_and, and_self, or_true, true_or, or_false, false_or, not_true_eq_false, not_false_eq_true, ne_eq, vxd, Nat.reduceBNe, most, ifT, ifF, v161, v161_b]
theorem g_slices_Clone_string_string (p0 : List ByteArray) : Le (fun r => some (D.sl true 1 (List.map D.str r), [], [])) (slices_Clone_string_string p0) (vcall T 161 [D.sl false 1 (List.map D.str p0)] []) := by
  unfold slices_Clone_string_string
  refine Le.chk fun h => Le.ret ?_
  exact c_slices_Clone_string_string p0 h
-- slices.Sort[[]string,string]
theorem g_slices_Sort_string_string (p0 : List ByteArray) : Le (fun r => some (D.tup [], [D.sl true 1 (List.map D.str r)], [])) (slices_Sort_string_string p0) (vcall T 219 [D.sl true 1 (List.map D.str p0)] []) := by
  unfold slices_Sort_string_string
  refine Le.chk fun h => Le.ret ?_
  rw [vcall_prim (g := sortD) T rfl, sortD_typed p0 h]
  rfl
-- slices.Compact[[]string,string]
theorem g_slices_Compact_string_string (p0 : List ByteArray) : Le (fun r => some (D.sl true 1 (List.map D.str r), [], [])) (slices_Compact_string_string p0) (vcall T 220 [D.sl true 1 (List.map D.str p0)] []) := by
  unfold slices_Compact_string_string
  refine Le.chk fun h => Le.ret ?_
  rw [vcall_prim (g := compactD) T rfl, compactD_typed p0 h]
  rfl
-- impl.sortedNames
theorem g_i_sortedNames (p0 : List ByteArray) : Le (fun r => some (D.sl true 1 (List.map D.str r), [], [])) (i_sortedNames p0) (vcall T 170 [D.sl true 1 (List.map D.str p0)] []) := by
  unfold i_sortedNames
  refine Le.enter (g := v170) rfl rfl rfl rfl ?_
  repeat' (try conv => arg 3; simp (maxSteps := 999999) only [sx, ty, ↓reduceIte, reduceCtorEq, Nat.reduceAdd, Nat.reduceSub, Nat.reduceLeDiff, Nat.reduceEqDiff, Nat.reduceLT, Nat.reduceMul, Nat.reduceBNe, List.reduceReplicate, Int.reduceLE, Int.reduceLT, Int.reduceEq, Int.reduceToNat, Int.reduceNeg, *, v170, v170_b]); first
    | refine Le.call (g_slices_Sort_string_string _) fun _ _ => ?_
    | refine Le.call (g_slices_Compact_string_string _) fun _ _ => ?_
    | ((with_reducible refine Le.ret ?_); exact rfl)

-- (impl.Function).isValid
noncomputable abbrev x_i_Function_isValid_j1 (s1 : TFunction) (s3 : List ByteArray) (s4 : Bool) (k : List Fr) : Option Res := go T (enF [.tmp 2] []) v153_j1 k ⟨[Z, .box [D.str s1.Name, D.sl false 1 (List.map D.str s1.Params), D.sl false 1 (List.map D.str s1.Locals), D.str s1.Label], Z, .d (D.sl true 1 (List.map D.str s3)), .d (D.bool s4), Z, Z, Z, Z, Z, Z, Z, Z, Z, Z, Z, Z, Z, Z, Z, Z, Z, Z, Z, Z, Z, Z, Z, Z, Z, Z, Z, Z, Z, Z, Z, Z, Z, Z, Z, Z, Z, Z, Z, Z], []⟩
noncomputable abbrev q_i_Function_isValid_j1 (s1 : TFunction) (s3 : List ByteArray) (s4 : Bool) (k : List Fr) (t : Bool) : Option Res := some (D.bool t, [], [])
theorem p_i_Function_isValid_j1 (s1 : TFunction) (s3 : List ByteArray) (s4 : Bool) (k : List Fr) : Le (q_i_Function_isValid_j1 s1 s3 s4 k) (i_Function_isValid_j1 s1 s3 s4) (x_i_Function_isValid_j1 s1 s3 s4 k) := by
  unfold i_Function_isValid_j1 x_i_Function_isValid_j1 v153_j1
  repeat' (try conv => arg 3; simp (maxSteps := 999999) only [sx, ty, ↓reduceIte, reduceCtorEq, Nat.reduceAdd, Nat.reduceSub, Nat.reduceLeDiff, Nat.reduceEqDiff, Nat.reduceLT, Nat.reduceMul, Nat.reduceBNe, List.reduceReplicate, Int.reduceLE, Int.reduceLT, Int.reduceEq, Int.reduceToNat, Int.reduceNeg, *]); first
    | refine Le.call (g_i_IsName _) fun _ _ => ?_
    | refine Le.call (g_i_areAll_string _) fun _ _ => ?_
    | refine Le.call (g_slices_Clone_string_string _) fun _ _ => ?_
    | refine Le.call (g_i_sortedNames _) fun _ _ => ?_
    | with_reducible refine Le.bool (fun _ => ?_) (fun _ => ?_)
    | ((with_reducible refine Le.ret ?_); exact rfl)

theorem g_i_Function_isValid (p0 : TFunction) : Le (fun r => some (D.bool r, [], [])) (i_Function_isValid p0) (vcall T 153 [D.agg [D.str p0.Name, D.sl false 1 (List.map D.str p0.Params), D.sl false 1 (List.map D.str p0.Locals), D.str p0.Label]] []) := by
  unfold i_Function_isValid
  refine Le.enter (g := v153) rfl rfl rfl rfl ?_
  repeat' (try conv => arg 3; simp (maxSteps := 999999) only [sx, ty, ↓reduceIte, reduceCtorEq, Nat.reduceAdd, Nat.reduceSub, Nat.reduceLeDiff, Nat.reduceEqDiff, Nat.reduceLT, Nat.reduceMul, Nat.reduceBNe, List.reduceReplicate, Int.reduceLE, Int.reduceLT, Int.reduceEq, Int.reduceToNat, Int.reduceNeg, *, v153, v153_b]); first
    | refine Le.call (g_slices_Concat_string_string _ _) fun _ _ => ?_
    | exact p_i_Function_isValid_j1 _ _ _ _
    | ((with_reducible refine Le.ret ?_); exact rfl)
    | with_reducible refine Le.itq (fun _ => ?_) (fun _ => ?_)

-- impl.areAll[impl.Function]
noncomputable abbrev x_i_areAll_Function_l1 (s0 : List TFunction) (s7 : List TFunction) (s8 : Int) (s9 : Int) (k : List Fr) : Option Res := go T (enF [.tmp 4] []) v152_m1 (.lp v152_l1 :: .bl 0 :: .sq (.clr [4,6,7,8,9,10,11,12,13,14,15,16,17]) :: k) ⟨[.d (D.sl false 4 (List.map (TFunction.e false) s0)), .d (D.fn 153 []), Z, Z, Z, Z, Z, .d (D.sl false 4 (List.map (TFunction.e false) s7)), .d (D.int .i64 s8), .d (D.int .i64 s9), Z, Z, Z, Z, Z, Z, Z, Z], []⟩
noncomputable abbrev q_i_areAll_Function_l1 (s0 : List TFunction) (s7 : List TFunction) (s8 : Int) (k : List Fr) (t : (Unit ⊕ Bool)) : Option Res := match t with | .inl t => bk T (enF [.tmp 4] []) k ⟨[.d (D.sl false 4 (List.map (TFunction.e false) s0)), .d (D.fn 153 []), Z, Z, Z, Z, Z, Z, Z, Z, Z, Z, Z, Z, Z, Z, Z, Z], []⟩ | .inr t => some (D.bool t, [], [])
theorem p_i_areAll_Function_l1 (s0 : List TFunction) (s7 : List TFunction) (s8 : Int) : ∀ (s9 : Int) (k : List Fr), Le (q_i_areAll_Function_l1 s0 s7 s8 k) (i_areAll_Function_l1 s0 s7 s8 s9) (x_i_areAll_Function_l1 s0 s7 s8 s9 k) := by
  intro s9 k
  refine Le.cp (X := x_i_areAll_Function_l1 s0 s7 s8 s9) (Q := q_i_areAll_Function_l1 s0 s7 s8) ?_ k
  refine i_areAll_Function_l1.partial_correctness s0 s7 s8 (motive := fun s9 r => ∀ k : List Fr, x_i_areAll_Function_l1 s0 s7 s8 s9 k = q_i_areAll_Function_l1 s0 s7 s8 k r) ?_ s9
  intro rec hrec s9
  refine Le.pc ?_
  intro k
  unfold x_i_areAll_Function_l1 v152_m1
  repeat' (try conv => arg 3; simp (maxSteps := 999999) only [sx, ty, ↓reduceIte, reduceCtorEq, Nat.reduceAdd, Nat.reduceSub, Nat.reduceLeDiff, Nat.reduceEqDiff, Nat.reduceLT, Nat.reduceMul, Nat.reduceBNe, List.reduceReplicate, Int.reduceLE, Int.reduceLT, Int.reduceEq, Int.reduceToNat, Int.reduceNeg, *, w152_1]); first
    | refine Le.call (g_i_Function_isValid _) fun _ _ => ?_
    | with_reducible refine Le.idx fun _ _ _ _ => ?_
    | with_reducible refine Le.bool (fun _ => ?_) (fun _ => ?_)
    | ((with_reducible refine Le.ret ?_); exact rfl)
    | with_reducible refine Le.itq (fun _ => ?_) (fun _ => ?_)
    | exact fun r hr => hrec _ r hr k

theorem g_i_areAll_Function (p0 : List TFunction) : Le (fun r => some (D.bool r, [], [])) (i_areAll_Function p0) (vcall T 152 [D.sl false 4 (List.map (TFunction.e false) p0), D.fn 153 []] []) := by
  unfold i_areAll_Function
  refine Le.enter (g := v152) rfl rfl rfl rfl ?_
  repeat' (try conv => arg 3; simp (maxSteps := 999999) only [sx, ty, ↓reduceIte, reduceCtorEq, Nat.reduceAdd, Nat.reduceSub, Nat.reduceLeDiff, Nat.reduceEqDiff, Nat.reduceLT, Nat.reduceMul, Nat.reduceBNe, List.reduceReplicate, Int.reduceLE, Int.reduceLT, Int.reduceEq, Int.reduceToNat, Int.reduceNeg, *, w152_1, v152, v152_b]); first
    | (refine Le.via (p_i_areAll_Function_l1 _ _ _ _ _) fun t _ => ?_; rcases t with t | t <;> try dsimp only [q_i_areAll_Function_l1])
    | ((with_reducible refine Le.ret ?_); exact rfl)

-- impl.areFields
noncomputable abbrev x_i_areFields_j1 (s0 : List ByteArray) (k : List Fr) : Option Res := go T (enF [.tmp 2] []) v97_j1 k ⟨[.d (D.sl false 1 (List.map D.str s0)), Z, Z, Z, Z, Z, Z, Z, Z, Z, Z, Z, Z, Z, Z, Z, Z, Z, Z, Z, Z, Z, Z], []⟩
noncomputable abbrev q_i_areFields_j1 (s0 : List ByteArray) (k : List Fr) (t : Bool) : Option Res := some (D.bool t, [], [])
theorem p_i_areFields_j1 (s0 : List ByteArray) (k : List Fr) : Le (q_i_areFields_j1 s0 k) (i_areFields_j1 s0) (x_i_areFields_j1 s0 k) := by
  unfold i_areFields_j1 x_i_areFields_j1 v97_j1
  repeat' (try conv => arg 3; simp (maxSteps := 999999) only [sx, ty, ↓reduceIte, reduceCtorEq, Nat.reduceAdd, Nat.reduceSub, Nat.reduceLeDiff, Nat.reduceEqDiff, Nat.reduceLT, Nat.reduceMul, Nat.reduceBNe, List.reduceReplicate, Int.reduceLE, Int.reduceLT, Int.reduceEq, Int.reduceToNat, Int.reduceNeg, *]); first
    | refine Le.call (g_slices_Clone_string_string _) fun _ _ => ?_
    | refine Le.call (g_i_sortedNames _) fun _ _ => ?_
    | ((with_reducible refine Le.ret ?_); exact rfl)

theorem g_i_areFields (p0 : List ByteArray) : Le (fun r => some (D.bool r, [], [])) (i_areFields p0) (vcall T 97 [D.sl false 1 (List.map D.str p0)] []) := by
  unfold i_areFields
  refine Le.enter (g := v97) rfl rfl rfl rfl ?_
  repeat' (try conv => arg 3; simp (maxSteps := 999999) only [sx, ty, ↓reduceIte, reduceCtorEq, Nat.reduceAdd, Nat.reduceSub, Nat.reduceLeDiff, Nat.reduceEqDiff, Nat.reduceLT, Nat.reduceMul, Nat.reduceBNe, List.reduceReplicate, Int.reduceLE, Int.reduceLT, Int.reduceEq, Int.reduceToNat, Int.reduceNeg, *, v97, v97_b]); first
    | refine Le.call (g_i_areAll_string _) fun _ _ => ?_
    | exact p_i_areFields_j1 _ _
    | ((with_reducible refine Le.ret ?_); exact rfl)
    | with_reducible refine Le.bool (fun _ => ?_) (fun _ => ?_)
    | with_reducible refine Le.itq (fun _ => ?_) (fun _ => ?_)

-- (impl.RecordType).isValid
theorem g_i_RecordType_isValid (p0 : TRecordType) : Le (fun r => some (D.bool r, [], [])) (i_RecordType_isValid p0) (vcall T 155 [D.agg [D.str p0.Name, D.sl false 1 (List.map D.str p0.Fields)]] []) := by
  unfold i_RecordType_isValid
  refine Le.enter (g := v155) rfl rfl rfl rfl ?_
  repeat' (try conv => arg 3; simp (maxSteps := 999999) only [sx, ty, ↓reduceIte, reduceCtorEq, Nat.reduceAdd, Nat.reduceSub, Nat.reduceLeDiff, Nat.reduceEqDiff, Nat.reduceLT, Nat.reduceMul, Nat.reduceBNe, List.reduceReplicate, Int.reduceLE, Int.reduceLT, Int.reduceEq, Int.reduceToNat, Int.reduceNeg, *, v155, v155_b]); first
    | refine Le.call (g_i_IsName _) fun _ _ => ?_
    | refine Le.call (g_i_areFields _) fun _ _ => ?_
    | with_reducible refine Le.bool (fun _ => ?_) (fun _ => ?_)
    | ((with_reducible refine Le.ret ?_); exact rfl)

-- impl.areAll[impl.RecordType]
noncomputable abbrev x_i_areAll_RecordType_l1 (s0 : List TRecordType) (s7 : List TRecordType) (s8 : Int) (s9 : Int) (k : List Fr) : Option Res := go T (enF [.tmp 4] []) v154_m1 (.lp v154_l1 :: .bl 0 :: .sq (.clr [4,6,7,8,9,10,11,12,13,14,15,16,17]) :: k) ⟨[.d (D.sl false 2 (List.map (TRecordType.e false) s0)), .d (D.fn 155 []), Z, Z, Z, Z, Z, .d (D.sl false 2 (List.map (TRecordType.e false) s7)), .d (D.int .i64 s8), .d (D.int .i64 s9), Z, Z, Z, Z, Z, Z, Z, Z], []⟩
noncomputable abbrev q_i_areAll_RecordType_l1 (s0 : List TRecordType) (s7 : List TRecordType) (s8 : Int) (k : List Fr) (t : (Unit ⊕ Bool)) : Option Res := match t with | .inl t => bk T (enF [.tmp 4] []) k ⟨[.d (D.sl false 2 (List.map (TRecordType.e false) s0)), .d (D.fn 155 []), Z, Z, Z, Z, Z, Z, Z, Z, Z, Z, Z, Z, Z, Z, Z, Z], []⟩ | .inr t => some (D.bool t, [], [])
theorem p_i_areAll_RecordType_l1 (s0 : List TRecordType) (s7 : List TRecordType) (s8 : Int) : ∀ (s9 : Int) (k : List Fr), Le (q_i_areAll_RecordType_l1 s0 s7 s8 k) (i_areAll_RecordType_l1 s0 s7 s8 s9) (x_i_areAll_RecordType_l1 s0 s7 s8 s9 k) := by
  intro s9 k
  refine Le.cp (X := x_i_areAll_RecordType_l1 s0 s7 s8 s9) (Q := q_i_areAll_RecordType_l1 s0 s7 s8) ?_ k
  refine i_areAll_RecordType_l1.partial_correctness s0 s7 s8 (motive := fun s9 r => ∀ k : List Fr, x_i_areAll_RecordType_l1 s0 s7 s8 s9 k = q_i_areAll_RecordType_l1 s0 s7 s8 k r) ?_ s9
  intro rec hrec s9
  refine Le.pc ?_
  intro k
  unfold x_i_areAll_RecordType_l1 v154_m1
  repeat' (try conv => arg 3; simp (maxSteps := 999999) only [sx, ty, ↓reduceIte, reduceCtorEq, Nat.reduceAdd, Nat.reduceSub, Nat.reduceLeDiff, Nat.reduceEqDiff, Nat.reduceLT, Nat.reduceMul, Nat.reduceBNe, List.reduceReplicate, Int.reduceLE, Int.reduceLT, Int.reduceEq, Int.reduceToNat, Int.reduceNeg, *, w154_1]); first
    | refine Le.call (g_i_RecordType_isValid _) fun _ _ => ?_
    | with_reducible refine Le.idx fun _ _ _ _ => ?_
    | with_reducible refine Le.bool (fun _ => ?_) (fun _ => ?_)
    | ((with_reducible refine Le.ret ?_); exact rfl)
    | with_reducible refine Le.itq (fun _ => ?_) (fun _ => ?_)
    | exact fun r hr => hrec _ r hr k

theorem g_i_areAll_RecordType (p0 : List TRecordType) : Le (fun r => some (D.bool r, [], [])) (i_areAll_RecordType p0) (vcall T 154 [D.sl false 2 (List.map (TRecordType.e false) p0), D.fn 155 []] []) := by
  unfold i_areAll_RecordType
  refine Le.enter (g := v154) rfl rfl rfl rfl ?_
  repeat' (try conv => arg 3; simp (maxSteps := 999999) only [sx, ty, ↓reduceIte, reduceCtorEq, Nat.reduceAdd, Nat.reduceSub, Nat.reduceLeDiff, Nat.reduceEqDiff, Nat.reduceLT, Nat.reduceMul, Nat.reduceBNe, List.reduceReplicate, Int.reduceLE, Int.reduceLT, Int.reduceEq, Int.reduceToNat, Int.reduceNeg, *, w154_1, v154, v154_b]); first
    | (refine Le.via (p_i_areAll_RecordType_l1 _ _ _ _ _) fun t _ => ?_; rcases t with t | t <;> try dsimp only [q_i_areAll_RecordType_l1])
    | ((with_reducible refine Le.ret ?_); exact rfl)

-- impl.ValidScope
noncomputable abbrev x_i_ValidScope_j1 (s1 : TScope) (s3 : Bool) (k : List Fr) : Option Res := go T (enF [.tmp 2] []) v72_j1 k ⟨[Z, .box [D.sl false 5 (List.map (TBinding.e false) s1.Vars), D.sl false 4 (List.map (TFunction.e false) s1.Functions), D.sl false 2 (List.map (TRecordType.e false) s1.Types)], Z, .d (D.bool s3), Z, Z, Z, Z, Z, Z, Z, Z, Z, Z, Z, Z, Z, Z, Z, Z, Z, Z, Z, Z, Z, Z, Z, Z, Z, Z, Z, Z, Z, Z, Z, Z, Z, Z, Z, Z, Z, Z, Z, Z, Z, Z, Z, Z, Z], []⟩
noncomputable abbrev q_i_ValidScope_j1 (s1 : TScope) (s3 : Bool) (k : List Fr) (t : Bool) : Option Res := some (D.bool t, [], [])
theorem p_i_ValidScope_j1 (s1 : TScope) (s3 : Bool) (k : List Fr) : Le (q_i_ValidScope_j1 s1 s3 k) (i_ValidScope_j1 s1 s3) (x_i_ValidScope_j1 s1 s3 k) := by
  unfold i_ValidScope_j1 x_i_ValidScope_j1 v72_j1
  repeat' (try conv => arg 3; simp (maxSteps := 999999) only [sx, ty, ↓reduceIte, reduceCtorEq, Nat.reduceAdd, Nat.reduceSub, Nat.reduceLeDiff, Nat.reduceEqDiff, Nat.reduceLT, Nat.reduceMul, Nat.reduceBNe, List.reduceReplicate, Int.reduceLE, Int.reduceLT, Int.reduceEq, Int.reduceToNat, Int.reduceNeg, *]); first
    | refine Le.call (g_i_areAll_Binding _) fun _ _ => ?_
    | refine Le.call (g_i_areAll_Function _) fun _ _ => ?_
    | refine Le.call (g_i_areAll_RecordType _) fun _ _ => ?_
    | with_reducible refine Le.bool (fun _ => ?_) (fun _ => ?_)
    | ((with_reducible refine Le.ret ?_); exact rfl)

noncomputable abbrev x_i_ValidScope_j2 (s1 : TScope) (k : List Fr) : Option Res := go T (enF [.tmp 2] []) v72_j2 k ⟨[Z, .box [D.sl false 5 (List.map (TBinding.e false) s1.Vars), D.sl false 4 (List.map (TFunction.e false) s1.Functions), D.sl false 2 (List.map (TRecordType.e false) s1.Types)], Z, Z, Z, Z, Z, Z, Z, Z, Z, Z, Z, Z, Z, Z, Z, Z, Z, Z, Z, Z, Z, Z, Z, Z, Z, Z, Z, Z, Z, Z, Z, Z, Z, Z, Z, Z, Z, Z, Z, Z, Z, Z, Z, Z, Z, Z, Z], []⟩
noncomputable abbrev q_i_ValidScope_j2 (s1 : TScope) (k : List Fr) (t : Bool) : Option Res := some (D.bool t, [], [])
theorem p_i_ValidScope_j2 (s1 : TScope) (k : List Fr) : Le (q_i_ValidScope_j2 s1 k) (i_ValidScope_j2 s1) (x_i_ValidScope_j2 s1 k) := by
  unfold i_ValidScope_j2 x_i_ValidScope_j2 v72_j2
  repeat' (try conv => arg 3; simp (maxSteps := 999999) only [sx, ty, ↓reduceIte, reduceCtorEq, Nat.reduceAdd, Nat.reduceSub, Nat.reduceLeDiff, Nat.reduceEqDiff, Nat.reduceLT, Nat.reduceMul, Nat.reduceBNe, List.reduceReplicate, Int.reduceLE, Int.reduceLT, Int.reduceEq, Int.reduceToNat, Int.reduceNeg, *]); first
    | refine Le.call (g_i_isSorted_Binding _) fun _ _ => ?_
    | refine Le.call (g_i_isSorted_Function _) fun _ _ => ?_
    | refine Le.call (g_i_isSorted_RecordType _) fun _ _ => ?_
    | (refine Le.via (p_i_ValidScope_j1 _ _ _) fun _ _ => ?_; try dsimp only [q_i_ValidScope_j1])
    | with_reducible refine Le.bool (fun _ => ?_) (fun _ => ?_)
    | ((with_reducible refine Le.ret ?_); exact rfl)

theorem g_i_ValidScope (p0 : TScope) : Le (fun r => some (D.bool r, [], [])) (i_ValidScope p0) (vcall T 72 [D.agg [D.sl false 5 (List.map (TBinding.e false) p0.Vars), D.sl false 4 (List.map (TFunction.e false) p0.Functions), D.sl false 2 (List.map (TRecordType.e false) p0.Types)]] []) := by
  unfold i_ValidScope
  refine Le.enter (g := v72) rfl rfl rfl rfl ?_
  repeat' (try conv => arg 3; simp (maxSteps := 999999) only [sx, ty, ↓reduceIte, reduceCtorEq, Nat.reduceAdd, Nat.reduceSub, Nat.reduceLeDiff, Nat.reduceEqDiff, Nat.reduceLT, Nat.reduceMul, Nat.reduceBNe, List.reduceReplicate, Int.reduceLE, Int.reduceLT, Int.reduceEq, Int.reduceToNat, Int.reduceNeg, *, v72, v72_b]); first
    | exact p_i_ValidScope_j2 _ _
    | ((with_reducible refine Le.ret ?_); exact rfl)
    | with_reducible refine Le.itq (fun _ => ?_) (fun _ => ?_)

-- slices.Clone[[]impl.Binding,impl.Binding]
theorem c_slices_Clone_Binding_Binding (xs : List TBinding) (h : xs.length ≤ 2147483648) : vcall T 160 [.sl false 5 (xs.map (TBinding.e false))] [] = some (.sl true 5 (xs.map (TBinding.e false)), [], []) := by
  cases xs with
  | nil =>
    rw [vcall_go T (g := v160) rfl rfl rfl _ _ rfl]
    simp (maxSteps := 9999999) (disch := omega) only [vx, px, ty, ↓reduceIte, Bool.false_eq_true, reduceCtorEq, Nat.reduceAdd, Nat.reduceSub, Nat.reduceLeDiff, Nat.reduceEqDiff, Nat.reduceLT, Nat.reduceMul, List.reduceReplicate, and_true, true_and, and_false, false_and, and_self, or_true, true_or, or_false, false_or, not_true_eq_false, not_false_eq_true, ne_eq, vxd, Nat.reduceBNe, most, ifT, ifF, v160, v160_b]
  | cons x xs =>
    rw [List.length_cons] at h
    rw [vcall_go T (g := v160) rfl rfl rfl _ _ rfl]
    simp (maxSteps := 9999999) (disch := omega) only [vx, px, ty, ↓reduceIte, Bool.false_eq_true, reduceCtorEq, Nat.reduceAdd, Nat.reduceSub, Nat.reduceLeDiff, Nat.reduceEqDiff, Nat.reduceLT, Nat.reduceMul, List.reduceReplicate, and_true, true_and, and_false, false_and, and_self, or_true, true_or, or_false, false_or, not_true_eq_false, not_false_eq_true, ne_eq, vxd, Nat.reduceBNe, most, ifT, ifF, v160, v160_b]
theorem g_slices_Clone_Binding_Binding (p0 : List TBinding) : Le (fun r => some (D.sl true 5 (List.map (TBinding.e false) r), [], [])) (slices_Clone_Binding_Binding p0) (vcall T 160 [D.sl false 5 (List.map (TBinding.e false) p0)] []) := by
  unfold slices_Clone_Binding_Binding
  refine Le.chk fun h => Le.ret ?_
  exact c_slices_Clone_Binding_Binding p0 h
-- (impl.Scope).copied
noncomputable abbrev x_i_Scope_copied_l1 (s1 : TScope) (s2 : TScope) (s13 : List TFunction) (s14 : Int) (s3 : TScope) (s15 : Int) (k : List Fr) : Option Res := go T (enF [.cell 2 (.many 3)] []) v84_m1 (.lp v84_l1 :: .bl 0 :: .sq (.clr [0,5,8,9,10,11,12,13,14,15,16,17,18,19,20,21,22,23,24,25,26,27,28,29,30,31,32,33]) :: k) ⟨[Z, .box [D.sl false 5 (List.map (TBinding.e false) s1.Vars), D.sl false 4 (List.map (TFunction.e false) s1.Functions), D.sl false 2 (List.map (TRecordType.e false) s1.Types)], .box [D.sl true 5 (List.map (TBinding.e false) s2.Vars), D.sl true 4 (List.map (TFunction.e true) s2.Functions), D.sl true 2 (List.map (TRecordType.e true) s2.Types)], .box [D.sl true 5 (List.map (TBinding.e false) s3.Vars), D.sl true 4 (List.map (TFunction.e true) s3.Functions), D.sl true 2 (List.map (TRecordType.e true) s3.Types)], Z, Z, Z, Z, Z, Z, Z, Z, .ptr ⟨.slot 1, [], 1⟩, .d (D.sl false 4 (List.map (TFunction.e false) s13)), .d (D.int .i64 s14), .d (D.int .i64 s15), Z, Z, Z, Z, Z, Z, Z, Z, Z, Z, Z, Z, Z, Z, Z, Z, Z, Z, Z, Z, Z, Z, Z, Z, Z, Z, Z, Z, Z, Z, Z, Z, Z, Z, Z, Z, Z], []⟩
noncomputable abbrev q_i_Scope_copied_l1 (s1 : TScope) (s2 : TScope) (s13 : List TFunction) (s14 : Int) (k : List Fr) (t : TScope) : Option Res := bk T (enF [.cell 2 (.many 3)] []) k ⟨[Z, .box [D.sl false 5 (List.map (TBinding.e false) s1.Vars), D.sl false 4 (List.map (TFunction.e false) s1.Functions), D.sl false 2 (List.map (TRecordType.e false) s1.Types)], .box [D.sl true 5 (List.map (TBinding.e false) s2.Vars), D.sl true 4 (List.map (TFunction.e true) s2.Functions), D.sl true 2 (List.map (TRecordType.e true) s2.Types)], .box [D.sl true 5 (List.map (TBinding.e false) t.Vars), D.sl true 4 (List.map (TFunction.e true) t.Functions), D.sl true 2 (List.map (TRecordType.e true) t.Types)], Z, Z, Z, Z, Z, Z, Z, Z, Z, Z, Z, Z, Z, Z, Z, Z, Z, Z, Z, Z, Z, Z, Z, Z, Z, Z, Z, Z, Z, Z, Z, Z, Z, Z, Z, Z, Z, Z, Z, Z, Z, Z, Z, Z, Z, Z, Z, Z, Z], []⟩
theorem p_i_Scope_copied_l1 (s1 : TScope) (s2 : TScope) (s13 : List TFunction) (s14 : Int) : ∀ (s3 : TScope) (s15 : Int) (k : List Fr), Le (q_i_Scope_copied_l1 s1 s2 s13 s14 k) (i_Scope_copied_l1 s1 s2 s13 s14 s3 s15) (x_i_Scope_copied_l1 s1 s2 s13 s14 s3 s15 k) := by
  intro s3 s15 k
  refine Le.cp (X := x_i_Scope_copied_l1 s1 s2 s13 s14 s3 s15) (Q := q_i_Scope_copied_l1 s1 s2 s13 s14) ?_ k
  refine i_Scope_copied_l1.partial_correctness s1 s2 s13 s14 (motive := fun s3 s15 r => ∀ k : List Fr, x_i_Scope_copied_l1 s1 s2 s13 s14 s3 s15 k = q_i_Scope_copied_l1 s1 s2 s13 s14 k r) ?_ s3 s15
  intro rec hrec s3 s15
  refine Le.pc ?_
  intro k
  unfold x_i_Scope_copied_l1 v84_m1
  try conv => arg 3; simp (maxSteps := 999999) only [sx, ty, ↓reduceIte, reduceCtorEq, Nat.reduceAdd, Nat.reduceSub, Nat.reduceLeDiff, Nat.reduceEqDiff, Nat.reduceLT, Nat.reduceMul, Nat.reduceBNe, List.reduceReplicate, Int.reduceLE, Int.reduceLT, Int.reduceEq, Int.reduceToNat, Int.reduceNeg, *, w84_1, w84_2]
  refine Le.itq (fun h => ?_) (fun h => ?_)
  · try conv => arg 3; simp (maxSteps := 999999) only [sx, ty, ↓reduceIte, reduceCtorEq, Nat.reduceAdd, Nat.reduceSub, Nat.reduceLeDiff, Nat.reduceEqDiff, Nat.reduceLT, Nat.reduceMul, Nat.reduceBNe, List.reduceReplicate, Int.reduceLE, Int.reduceLT, Int.reduceEq, Int.reduceToNat, Int.reduceNeg, *, w84_1, w84_2]
    refine Le.idx fun a17 h_1 h_2 h_3 => ?_
    try conv => arg 3; simp (maxSteps := 999999) only [sx, ty, ↓reduceIte, reduceCtorEq, Nat.reduceAdd, Nat.reduceSub, Nat.reduceLeDiff, Nat.reduceEqDiff, Nat.reduceLT, Nat.reduceMul, Nat.reduceBNe, List.reduceReplicate, Int.reduceLE, Int.reduceLT, Int.reduceEq, Int.reduceToNat, Int.reduceNeg, *, w84_1, w84_2]
    refine Le.dcall (g_slices_Clone_string_string a17.Params) fun r21 h_4 => ?_
    try conv => arg 3; simp (maxSteps := 999999) only [sx, ty, ↓reduceIte, reduceCtorEq, Nat.reduceAdd, Nat.reduceSub, Nat.reduceLeDiff, Nat.reduceEqDiff, Nat.reduceLT, Nat.reduceMul, Nat.reduceBNe, List.reduceReplicate, Int.reduceLE, Int.reduceLT, Int.reduceEq, Int.reduceToNat, Int.reduceNeg, *, w84_1, w84_2]
    refine Le.dcall (g_slices_Clone_string_string a17.Locals) fun r24 h_5 => ?_
    try conv => arg 3; simp (maxSteps := 999999) only [sx, ty, ↓reduceIte, reduceCtorEq, Nat.reduceAdd, Nat.reduceSub, Nat.reduceLeDiff, Nat.reduceEqDiff, Nat.reduceLT, Nat.reduceMul, Nat.reduceBNe, List.reduceReplicate, Int.reduceLE, Int.reduceLT, Int.reduceEq, Int.reduceToNat, Int.reduceNeg, *, w84_1, w84_2]
    refine Le.app fun c31 h_6 h_7 => ?_
    replace h_6 : List.map (TFunction.e true) s3.Functions ++ [D.agg [D.str a17.Name, D.sl true 1 (List.map D.str r21), D.sl true 1 (List.map D.str r24), D.str a17.Label]] = List.map (TFunction.e true) c31 := by rw [h_6, List.map_append] <;> rfl
    replace h_7 : s3.Functions.length + 1 ≤ most := h_7
    try conv => arg 3; simp (maxSteps := 999999) only [sx, ty, ↓reduceIte, reduceCtorEq, Nat.reduceAdd, Nat.reduceSub, Nat.reduceLeDiff, Nat.reduceEqDiff, Nat.reduceLT, Nat.reduceMul, Nat.reduceBNe, List.reduceReplicate, Int.reduceLE, Int.reduceLT, Int.reduceEq, Int.reduceToNat, Int.reduceNeg, *, w84_1, w84_2]
    exact fun r hr => hrec _ _ r hr k
  · try conv => arg 3; simp (maxSteps := 999999) only [sx, ty, ↓reduceIte, reduceCtorEq, Nat.reduceAdd, Nat.reduceSub, Nat.reduceLeDiff, Nat.reduceEqDiff, Nat.reduceLT, Nat.reduceMul, Nat.reduceBNe, List.reduceReplicate, Int.reduceLE, Int.reduceLT, Int.reduceEq, Int.reduceToNat, Int.reduceNeg, *, w84_1, w84_2]
    ((with_reducible refine Le.ret ?_); exact rfl)

noncomputable abbrev x_i_Scope_copied_l2 (s1 : TScope) (s2 : TScope) (s35 : List TRecordType) (s36 : Int) (s3 : TScope) (s37 : Int) (k : List Fr) : Option Res := go T (enF [.cell 2 (.many 3)] []) v84_m2 (.lp v84_l2 :: .bl 2 :: .sq (.clr [0,1,5,7,8,9,10,11,12,13,14,15,16,17,18,19,20,21,22,23,24,25,26,27,28,29,30,31,32,33,34,35,36,37,38,39,40,41,42,43,44,45,46,47,48,49,50,51]) :: k) ⟨[Z, .box [D.sl false 5 (List.map (TBinding.e false) s1.Vars), D.sl false 4 (List.map (TFunction.e false) s1.Functions), D.sl false 2 (List.map (TRecordType.e false) s1.Types)], .box [D.sl true 5 (List.map (TBinding.e false) s2.Vars), D.sl true 4 (List.map (TFunction.e true) s2.Functions), D.sl true 2 (List.map (TRecordType.e true) s2.Types)], .box [D.sl true 5 (List.map (TBinding.e false) s3.Vars), D.sl true 4 (List.map (TFunction.e true) s3.Functions), D.sl true 2 (List.map (TRecordType.e true) s3.Types)], Z, Z, Z, Z, Z, Z, Z, Z, Z, Z, Z, Z, Z, Z, Z, Z, Z, Z, Z, Z, Z, Z, Z, Z, Z, Z, Z, Z, Z, Z, .ptr ⟨.slot 1, [], 2⟩, .d (D.sl false 2 (List.map (TRecordType.e false) s35)), .d (D.int .i64 s36), .d (D.int .i64 s37), Z, Z, Z, Z, Z, Z, Z, Z, Z, Z, Z, Z, Z, Z, Z], []⟩
noncomputable abbrev q_i_Scope_copied_l2 (s1 : TScope) (s2 : TScope) (s35 : List TRecordType) (s36 : Int) (k : List Fr) (t : TScope) : Option Res := bk T (enF [.cell 2 (.many 3)] []) k ⟨[Z, Z, .box [D.sl true 5 (List.map (TBinding.e false) s2.Vars), D.sl true 4 (List.map (TFunction.e true) s2.Functions), D.sl true 2 (List.map (TRecordType.e true) s2.Types)], .box [D.sl true 5 (List.map (TBinding.e false) t.Vars), D.sl true 4 (List.map (TFunction.e true) t.Functions), D.sl true 2 (List.map (TRecordType.e true) t.Types)], Z, Z, Z, Z, Z, Z, Z, Z, Z, Z, Z, Z, Z, Z, Z, Z, Z, Z, Z, Z, Z, Z, Z, Z, Z, Z, Z, Z, Z, Z, Z, Z, Z, Z, Z, Z, Z, Z, Z, Z, Z, Z, Z, Z, Z, Z, Z, Z, Z], []⟩
theorem p_i_Scope_copied_l2 (s1 : TScope) (s2 : TScope) (s35 : List TRecordType) (s36 : Int) : ∀ (s3 : TScope) (s37 : Int) (k : List Fr), Le (q_i_Scope_copied_l2 s1 s2 s35 s36 k) (i_Scope_copied_l2 s1 s2 s35 s36 s3 s37) (x_i_Scope_copied_l2 s1 s2 s35 s36 s3 s37 k) := by
  intro s3 s37 k
  refine Le.cp (X := x_i_Scope_copied_l2 s1 s2 s35 s36 s3 s37) (Q := q_i_Scope_copied_l2 s1 s2 s35 s36) ?_ k
  refine i_Scope_copied_l2.partial_correctness s1 s2 s35 s36 (motive := fun s3 s37 r => ∀ k : List Fr, x_i_Scope_copied_l2 s1 s2 s35 s36 s3 s37 k = q_i_Scope_copied_l2 s1 s2 s35 s36 k r) ?_ s3 s37
  intro rec hrec s3 s37
  refine Le.pc ?_
  intro k
  unfold x_i_Scope_copied_l2 v84_m2
  try conv => arg 3; simp (maxSteps := 999999) only [sx, ty, ↓reduceIte, reduceCtorEq, Nat.reduceAdd, Nat.reduceSub, Nat.reduceLeDiff, Nat.reduceEqDiff, Nat.reduceLT, Nat.reduceMul, Nat.reduceBNe, List.reduceReplicate, Int.reduceLE, Int.reduceLT, Int.reduceEq, Int.reduceToNat, Int.reduceNeg, *, w84_1, w84_2]
  refine Le.itq (fun h => ?_) (fun h => ?_)
  · try conv => arg 3; simp (maxSteps := 999999) only [sx, ty, ↓reduceIte, reduceCtorEq, Nat.reduceAdd, Nat.reduceSub, Nat.reduceLeDiff, Nat.reduceEqDiff, Nat.reduceLT, Nat.reduceMul, Nat.reduceBNe, List.reduceReplicate, Int.reduceLE, Int.reduceLT, Int.reduceEq, Int.reduceToNat, Int.reduceNeg, *, w84_1, w84_2]
    refine Le.idx fun a39 h_1 h_2 h_3 => ?_
    try conv => arg 3; simp (maxSteps := 999999) only [sx, ty, ↓reduceIte, reduceCtorEq, Nat.reduceAdd, Nat.reduceSub, Nat.reduceLeDiff, Nat.reduceEqDiff, Nat.reduceLT, Nat.reduceMul, Nat.reduceBNe, List.reduceReplicate, Int.reduceLE, Int.reduceLT, Int.reduceEq, Int.reduceToNat, Int.reduceNeg, *, w84_1, w84_2]
    refine Le.call (g_slices_Clone_string_string a39.Fields) fun r43 h_4 => ?_
    try conv => arg 3; simp (maxSteps := 999999) only [sx, ty, ↓reduceIte, reduceCtorEq, Nat.reduceAdd, Nat.reduceSub, Nat.reduceLeDiff, Nat.reduceEqDiff, Nat.reduceLT, Nat.reduceMul, Nat.reduceBNe, List.reduceReplicate, Int.reduceLE, Int.reduceLT, Int.reduceEq, Int.reduceToNat, Int.reduceNeg, *, w84_1, w84_2]
    refine Le.app fun c49 h_5 h_6 => ?_
    replace h_5 : List.map (TRecordType.e true) s3.Types ++ [D.agg [D.str a39.Name, D.sl true 1 (List.map D.str r43)]] = List.map (TRecordType.e true) c49 := by rw [h_5, List.map_append] <;> rfl
    replace h_6 : s3.Types.length + 1 ≤ most := h_6
    try conv => arg 3; simp (maxSteps := 999999) only [sx, ty, ↓reduceIte, reduceCtorEq, Nat.reduceAdd, Nat.reduceSub, Nat.reduceLeDiff, Nat.reduceEqDiff, Nat.reduceLT, Nat.reduceMul, Nat.reduceBNe, List.reduceReplicate, Int.reduceLE, Int.reduceLT, Int.reduceEq, Int.reduceToNat, Int.reduceNeg, *, w84_1, w84_2]
    exact fun r hr => hrec _ _ r hr k
  · try conv => arg 3; simp (maxSteps := 999999) only [sx, ty, ↓reduceIte, reduceCtorEq, Nat.reduceAdd, Nat.reduceSub, Nat.reduceLeDiff, Nat.reduceEqDiff, Nat.reduceLT, Nat.reduceMul, Nat.reduceBNe, List.reduceReplicate, Int.reduceLE, Int.reduceLT, Int.reduceEq, Int.reduceToNat, Int.reduceNeg, *, w84_1, w84_2]
    ((with_reducible refine Le.ret ?_); exact rfl)

theorem g_i_Scope_copied (p0 : TScope) : Le (fun r => some (D.agg [D.sl true 5 (List.map (TBinding.e false) r.Vars), D.sl true 4 (List.map (TFunction.e true) r.Functions), D.sl true 2 (List.map (TRecordType.e true) r.Types)], [], [])) (i_Scope_copied p0) (vcall T 84 [D.agg [D.sl false 5 (List.map (TBinding.e false) p0.Vars), D.sl false 4 (List.map (TFunction.e false) p0.Functions), D.sl false 2 (List.map (TRecordType.e false) p0.Types)]] []) := by
  unfold i_Scope_copied
  refine Le.enter (g := v84) rfl rfl rfl rfl ?_
  repeat' (try conv => arg 3; simp (maxSteps := 999999) only [sx, ty, ↓reduceIte, reduceCtorEq, Nat.reduceAdd, Nat.reduceSub, Nat.reduceLeDiff, Nat.reduceEqDiff, Nat.reduceLT, Nat.reduceMul, Nat.reduceBNe, List.reduceReplicate, Int.reduceLE, Int.reduceLT, Int.reduceEq, Int.reduceToNat, Int.reduceNeg, *, w84_1, w84_2, v84, v84_b]); first
    | refine Le.call (g_slices_Clone_Binding_Binding _) fun _ _ => ?_
    | (refine Le.via (p_i_Scope_copied_l1 _ _ _ _ _ _ _) fun _ _ => ?_; try dsimp only [q_i_Scope_copied_l1])
    | (refine Le.via (p_i_Scope_copied_l2 _ _ _ _ _ _ _) fun _ _ => ?_; try dsimp only [q_i_Scope_copied_l2])
    | ((with_reducible refine Le.ret ?_); exact rfl)

-- cmp.isNaN[string]
theorem g_cmp_isNaN_string (p0 : ByteArray) : Le (fun r => some (D.bool r, [], [])) (cmp_isNaN_string p0) (vcall T 244 [D.str p0] []) := by
  unfold cmp_isNaN_string
  refine Le.enter (g := v244) rfl rfl rfl rfl ?_
  try conv => arg 3; simp (maxSteps := 999999) only [sx, ty, ↓reduceIte, reduceCtorEq, Nat.reduceAdd, Nat.reduceSub, Nat.reduceLeDiff, Nat.reduceEqDiff, Nat.reduceLT, Nat.reduceMul, Nat.reduceBNe, List.reduceReplicate, Int.reduceLE, Int.reduceLT, Int.reduceEq, Int.reduceToNat, Int.reduceNeg, *, v244, v244_b]
  ((with_reducible refine Le.ret ?_); exact rfl)

-- cmp.Compare[string]
theorem g_cmp_Compare_string (p0 : ByteArray) (p1 : ByteArray) : Le (fun r => some (D.int .i64 r, [], [])) (cmp_Compare_string p0 p1) (vcall T 211 [D.str p0, D.str p1] []) := by
  unfold cmp_Compare_string
  refine Le.enter (g := v211) rfl rfl rfl rfl ?_
  repeat' (try conv => arg 3; simp (maxSteps := 999999) only [sx, ty, ↓reduceIte, reduceCtorEq, Nat.reduceAdd, Nat.reduceSub, Nat.reduceLeDiff, Nat.reduceEqDiff, Nat.reduceLT, Nat.reduceMul, Nat.reduceBNe, List.reduceReplicate, Int.reduceLE, Int.reduceLT, Int.reduceEq, Int.reduceToNat, Int.reduceNeg, *, v211, v211_b]); first
    | refine Le.call (g_cmp_isNaN_string _) fun _ _ => ?_
    | with_reducible refine Le.bool (fun _ => ?_) (fun _ => ?_)
    | ((with_reducible refine Le.ret ?_); exact rfl)
    | with_reducible refine Le.itq (fun _ => ?_) (fun _ => ?_)

-- impl.find[impl.Function].1
theorem g_i_find_Function_1 (p0 : TFunction) (p1 : ByteArray) : Le (fun r => some (D.int .i64 r, [], [[D.fn 147 []]])) (i_find_Function_1 p0 p1) (vcall T 210 [D.agg [D.str p0.Name, D.sl false 1 (List.map D.str p0.Params), D.sl false 1 (List.map D.str p0.Locals), D.str p0.Label], D.str p1, D.ref 0 0] [[D.fn 147 []]]) := by
  unfold i_find_Function_1
  refine Le.enter (g := v210) rfl rfl rfl rfl ?_
  repeat' (try conv => arg 3; simp (maxSteps := 999999) only [sx, ty, ↓reduceIte, reduceCtorEq, Nat.reduceAdd, Nat.reduceSub, Nat.reduceLeDiff, Nat.reduceEqDiff, Nat.reduceLT, Nat.reduceMul, Nat.reduceBNe, List.reduceReplicate, Int.reduceLE, Int.reduceLT, Int.reduceEq, Int.reduceToNat, Int.reduceNeg, *, v210, v210_b]); first
    | refine Le.call (g_i_nameOfFunction _) fun _ _ => ?_
    | refine Le.call (g_cmp_Compare_string _ _) fun _ _ => ?_
    | ((with_reducible refine Le.ret ?_); exact rfl)

-- slices.BinarySearchFunc[[]impl.Function,impl.Function,string]
noncomputable abbrev x_slices_BinarySearchFunc_Function_Function_string_l1 (s0 : List TFunction) (s1 : ByteArray) (s8 : Int) (s9 : Int) (s10 : Int) (k : List Fr) : Option Res := go T (enF [.tmp 6, .tmp 7] []) v209_m1 (.lp v209_l1 :: .bl 0 :: .sq (.clr [6,7,10,11,12,13,14,15,16,17,18,19,20,21,22,23,24,25,26,27,28,29,30,31,32,33,34]) :: k) ⟨[.d (D.sl false 4 (List.map (TFunction.e false) s0)), .d (D.str s1), .d (D.fn 210 [D.ref 0 0]), Z, Z, Z, Z, Z, .d (D.int .i64 s8), .d (D.int .i64 s9), .d (D.int .i64 s10), Z, Z, Z, Z, Z, Z, Z, Z, Z, Z, Z, Z, Z, Z, Z, Z, Z, Z, Z, Z, Z, Z, Z, Z, Z, Z, Z, Z, Z, Z, Z, Z, Z, Z, Z, Z, Z, Z], [[D.fn 147 []]]⟩
noncomputable abbrev q_slices_BinarySearchFunc_Function_Function_string_l1 (s0 : List TFunction) (s1 : ByteArray) (s8 : Int) (k : List Fr) (t : Int) : Option Res := bk T (enF [.tmp 6, .tmp 7] []) k ⟨[.d (D.sl false 4 (List.map (TFunction.e false) s0)), .d (D.str s1), .d (D.fn 210 [D.ref 0 0]), Z, Z, Z, Z, Z, .d (D.int .i64 s8), .d (D.int .i64 t), Z, Z, Z, Z, Z, Z, Z, Z, Z, Z, Z, Z, Z, Z, Z, Z, Z, Z, Z, Z, Z, Z, Z, Z, Z, Z, Z, Z, Z, Z, Z, Z, Z, Z, Z, Z, Z, Z, Z], [[D.fn 147 []]]⟩
theorem p_slices_BinarySearchFunc_Function_Function_string_l1 (s0 : List TFunction) (s1 : ByteArray) (s8 : Int) : ∀ (s9 : Int) (s10 : Int) (k : List Fr), Le (q_slices_BinarySearchFunc_Function_Function_string_l1 s0 s1 s8 k) (slices_BinarySearchFunc_Function_Function_string_l1 s0 s1 s8 s9 s10) (x_slices_BinarySearchFunc_Function_Function_string_l1 s0 s1 s8 s9 s10 k) := by
  intro s9 s10 k
  refine Le.cp (X := x_slices_BinarySearchFunc_Function_Function_string_l1 s0 s1 s8 s9 s10) (Q := q_slices_BinarySearchFunc_Function_Function_string_l1 s0 s1 s8) ?_ k
  refine slices_BinarySearchFunc_Function_Function_string_l1.partial_correctness s0 s1 s8 (motive := fun s9 s10 r => ∀ k : List Fr, x_slices_BinarySearchFunc_Function_Function_string_l1 s0 s1 s8 s9 s10 k = q_slices_BinarySearchFunc_Function_Function_string_l1 s0 s1 s8 k r) ?_ s9 s10
  intro rec hrec s9 s10
  refine Le.pc ?_
  intro k
  unfold x_slices_BinarySearchFunc_Function_Function_string_l1 v209_m1
  repeat' (try conv => arg 3; simp (maxSteps := 999999) only [sx, ty, ↓reduceIte, reduceCtorEq, Nat.reduceAdd, Nat.reduceSub, Nat.reduceLeDiff, Nat.reduceEqDiff, Nat.reduceLT, Nat.reduceMul, Nat.reduceBNe, List.reduceReplicate, Int.reduceLE, Int.reduceLT, Int.reduceEq, Int.reduceToNat, Int.reduceNeg, *, w209_1]); first
    | refine Le.call (g_i_find_Function_1 _ _) fun _ _ => ?_
    | with_reducible refine Le.idx fun _ _ _ _ => ?_
    | ((with_reducible refine Le.ret ?_); exact rfl)
    | with_reducible refine Le.itq (fun _ => ?_) (fun _ => ?_)
    | exact fun r hr => hrec _ _ r hr k

theorem g_slices_BinarySearchFunc_Function_Function_string (p0 : List TFunction) (p1 : ByteArray) : Le (fun r => some (D.tup [D.int .i64 r.1, D.bool r.2], [], [[D.fn 147 []]])) (slices_BinarySearchFunc_Function_Function_string p0 p1) (vcall T 209 [D.sl false 4 (List.map (TFunction.e false) p0), D.str p1, D.fn 210 [D.ref 0 0]] [[D.fn 147 []]]) := by
  unfold slices_BinarySearchFunc_Function_Function_string
  refine Le.enter (g := v209) rfl rfl rfl rfl ?_
  repeat' (try conv => arg 3; simp (maxSteps := 999999) only [sx, ty, ↓reduceIte, reduceCtorEq, Nat.reduceAdd, Nat.reduceSub, Nat.reduceLeDiff, Nat.reduceEqDiff, Nat.reduceLT, Nat.reduceMul, Nat.reduceBNe, List.reduceReplicate, Int.reduceLE, Int.reduceLT, Int.reduceEq, Int.reduceToNat, Int.reduceNeg, *, w209_1, v209, v209_b]); first
    | (refine Le.via (p_slices_BinarySearchFunc_Function_Function_string_l1 _ _ _ _ _ _) fun _ _ => ?_; try dsimp only [q_slices_BinarySearchFunc_Function_Function_string_l1])
    | refine Le.call (g_i_find_Function_1 _ _) fun _ _ => ?_
    | with_reducible refine Le.idx fun _ _ _ _ => ?_
    | ((with_reducible refine Le.ret ?_); exact rfl)
    | with_reducible refine Le.itq (fun _ => ?_) (fun _ => ?_)

-- impl.find[impl.Function]
theorem g_i_find_Function (p0 : List TFunction) (p1 : ByteArray) : Le (fun r => some (D.tup [D.int .i64 r.1, D.bool r.2], [], [[D.fn 147 []]])) (i_find_Function p0 p1) (vcall T 162 [D.sl false 4 (List.map (TFunction.e false) p0), D.str p1, D.fn 147 []] []) := by
  unfold i_find_Function
  refine Le.enter (g := v162) rfl rfl rfl rfl ?_
  repeat' (try conv => arg 3; simp (maxSteps := 999999) only [sx, ty, ↓reduceIte, reduceCtorEq, Nat.reduceAdd, Nat.reduceSub, Nat.reduceLeDiff, Nat.reduceEqDiff, Nat.reduceLT, Nat.reduceMul, Nat.reduceBNe, List.reduceReplicate, Int.reduceLE, Int.reduceLT, Int.reduceEq, Int.reduceToNat, Int.reduceNeg, *, v162, v162_b]); first
    | refine Le.call (g_slices_BinarySearchFunc_Function_Function_string _ _) fun _ _ => ?_
    | ((with_reducible refine Le.ret ?_); exact rfl)

-- (impl.Scope).function
theorem g_i_Scope_function (p0 : TScope) (p1 : ByteArray) : Le (fun r => some (D.tup [D.agg [D.str r.1.Name, D.sl true 1 (List.map D.str r.1.Params), D.sl true 1 (List.map D.str r.1.Locals), D.str r.1.Label], D.bool r.2], [], [])) (i_Scope_function p0 p1) (vcall T 85 [D.agg [D.sl true 5 (List.map (TBinding.e false) p0.Vars), D.sl true 4 (List.map (TFunction.e true) p0.Functions), D.sl true 2 (List.map (TRecordType.e true) p0.Types)], D.str p1] []) := by
  unfold i_Scope_function
  refine Le.enter (g := v85) rfl rfl rfl rfl ?_
  repeat' (try conv => arg 3; simp (maxSteps := 999999) only [sx, ty, ↓reduceIte, reduceCtorEq, Nat.reduceAdd, Nat.reduceSub, Nat.reduceLeDiff, Nat.reduceEqDiff, Nat.reduceLT, Nat.reduceMul, Nat.reduceBNe, List.reduceReplicate, Int.reduceLE, Int.reduceLT, Int.reduceEq, Int.reduceToNat, Int.reduceNeg, *, v85, v85_b]); first
    | refine Le.call (g_i_find_Function _ _) fun _ _ => ?_
    | with_reducible refine Le.bool (fun _ => ?_) (fun _ => ?_)
    | with_reducible refine Le.idx fun _ _ _ _ => ?_
    | ((with_reducible refine Le.ret ?_); exact rfl)

-- impl.FunctionOf
theorem g_i_FunctionOf (p0 : TScope) (p1 : ByteArray) : Le (fun r => some (D.tup [D.agg [D.str r.1.Name, D.sl true 1 (List.map D.str r.1.Params), D.sl true 1 (List.map D.str r.1.Locals), D.str r.1.Label], D.bool r.2], [], [])) (i_FunctionOf p0 p1) (vcall T 25 [D.agg [D.sl false 5 (List.map (TBinding.e false) p0.Vars), D.sl false 4 (List.map (TFunction.e false) p0.Functions), D.sl false 2 (List.map (TRecordType.e false) p0.Types)], D.str p1] []) := by
  unfold i_FunctionOf
  refine Le.enter (g := v25) rfl rfl rfl rfl ?_
  repeat' (try conv => arg 3; simp (maxSteps := 999999) only [sx, ty, ↓reduceIte, reduceCtorEq, Nat.reduceAdd, Nat.reduceSub, Nat.reduceLeDiff, Nat.reduceEqDiff, Nat.reduceLT, Nat.reduceMul, Nat.reduceBNe, List.reduceReplicate, Int.reduceLE, Int.reduceLT, Int.reduceEq, Int.reduceToNat, Int.reduceNeg, *, v25, v25_b]); first
    | refine Le.call (g_i_ValidScope _) fun _ _ => ?_
    | refine Le.call (g_i_Scope_copied _) fun _ _ => ?_
    | refine Le.call (g_i_Scope_function _ _) fun _ _ => ?_
    | with_reducible refine Le.bool (fun _ => ?_) (fun _ => ?_)
    | ((with_reducible refine Le.ret ?_); exact rfl)

end Go.Vx.FuZ
