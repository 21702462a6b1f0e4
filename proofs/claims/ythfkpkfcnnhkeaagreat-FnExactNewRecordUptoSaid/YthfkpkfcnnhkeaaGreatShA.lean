/-
  What the plain functions give, the program gives too.
-/
import Derived.Test.YthfkpkfcnnhkeaaGreatCode
import Derived.Test.YthfkpkfcnnhkeaaGreatDef
set_option linter.unusedVariables false
set_option linter.unusedSimpArgs false
namespace Go.Vx.NrZ
set_option linter.unusedVariables false
set_option linter.unusedSimpArgs false
set_option maxRecDepth 10000
set_option maxHeartbeats 2000000
theorem g_s_l02Letter (p0 : Int) : Le (fun r x => Pu (D.bool r) [] x) (s_l02Letter p0) (vcall T 205 [D.int .u8 p0] []) := by
  unfold s_l02Letter
  refine Le.enter (g := v205) rfl rfl rfl rfl ?_
  repeat' (try conv => arg 3; simp (maxSteps := 999999) only [sx, ty, ↓reduceIte, reduceCtorEq, Nat.reduceAdd, Nat.reduceSub, Nat.reduceLeDiff, Nat.reduceEqDiff, Nat.reduceLT, Nat.reduceMul, Nat.reduceBNe, List.reduceReplicate, Int.reduceLE, Int.reduceLT, Int.reduceEq, Int.reduceToNat, Int.reduceNeg, *, v205, v205_b]); first
    | ((with_reducible refine Le.ret ?_); first | exact rfl | exact Pu.mk)
    | with_reducible refine Le.itq (fun _ => ?_) (fun _ => ?_)
theorem g_s_l02Digit (p0 : Int) : Le (fun r x => Pu (D.bool r) [] x) (s_l02Digit p0) (vcall T 206 [D.int .u8 p0] []) := by
  unfold s_l02Digit
  refine Le.enter (g := v206) rfl rfl rfl rfl ?_
  repeat' (try conv => arg 3; simp (maxSteps := 999999) only [sx, ty, ↓reduceIte, reduceCtorEq, Nat.reduceAdd, Nat.reduceSub, Nat.reduceLeDiff, Nat.reduceEqDiff, Nat.reduceLT, Nat.reduceMul, Nat.reduceBNe, List.reduceReplicate, Int.reduceLE, Int.reduceLT, Int.reduceEq, Int.reduceToNat, Int.reduceNeg, *, v206, v206_b]); first
    | ((with_reducible refine Le.ret ?_); first | exact rfl | exact Pu.mk)
    | with_reducible refine Le.itq (fun _ => ?_) (fun _ => ?_)
noncomputable abbrev x_s_l02NameEnd_l1 (s0 : ByteArray) (s1 : Int) (k : List Fr) : Option Res := go T (enF [.tmp 4] []) v141_m1 (.lp v141_l1 :: .bl 0 :: .sq (.clr [4,5,6,7,8,9,10,11,12,13,14,15,16,17,18,19,20,21,22,23,24,25,26,27,28,29,30,31,32,33,34,35,36,37,38,39,40]) :: k) ⟨[.d (D.str s0), .d (D.int .i64 s1), Z, Z, Z, Z, Z, Z, Z, Z, Z, Z, Z, Z, Z, Z, Z, Z, Z, Z, Z, Z, Z, Z, Z, Z, Z, Z, Z, Z, Z, Z, Z, Z, Z, Z, Z, Z, Z, Z, Z, Z], []⟩
noncomputable abbrev q_s_l02NameEnd_l1 (s0 : ByteArray) (k : List Fr) (t : Int) (x : Option Res) : Prop := x = bk T (enF [.tmp 4] []) k ⟨[.d (D.str s0), .d (D.int .i64 t), Z, Z, Z, Z, Z, Z, Z, Z, Z, Z, Z, Z, Z, Z, Z, Z, Z, Z, Z, Z, Z, Z, Z, Z, Z, Z, Z, Z, Z, Z, Z, Z, Z, Z, Z, Z, Z, Z, Z, Z], []⟩
theorem p_s_l02NameEnd_l1 (s0 : ByteArray) : ∀ (s1 : Int) (k : List Fr), Le (q_s_l02NameEnd_l1 s0 k) (s_l02NameEnd_l1 s0 s1) (x_s_l02NameEnd_l1 s0 s1 k) := by
  intro s1 k
  refine Le.cp (X := x_s_l02NameEnd_l1 s0 s1) (Q := q_s_l02NameEnd_l1 s0) ?_ k
  refine s_l02NameEnd_l1.partial_correctness s0 (motive := fun s1 r => ∀ k : List Fr, q_s_l02NameEnd_l1 s0 k r (x_s_l02NameEnd_l1 s0 s1 k)) ?_ s1
  intro rec hrec s1
  refine Le.pc ?_
  intro k
  unfold x_s_l02NameEnd_l1 v141_m1
  repeat' (try conv => arg 3; simp (maxSteps := 999999) only [sx, ty, ↓reduceIte, reduceCtorEq, Nat.reduceAdd, Nat.reduceSub, Nat.reduceLeDiff, Nat.reduceEqDiff, Nat.reduceLT, Nat.reduceMul, Nat.reduceBNe, List.reduceReplicate, Int.reduceLE, Int.reduceLT, Int.reduceEq, Int.reduceToNat, Int.reduceNeg, *, w141_1]); first
    | (refine Le.call (g_s_l02Letter _) fun _ _ _ hy => ?_; obtain ⟨_, rfl⟩ := hy)
    | (refine Le.call (g_s_l02Digit _) fun _ _ _ hy => ?_; obtain ⟨_, rfl⟩ := hy)
    | with_reducible refine Le.idxB fun _ _ _ _ => ?_
    | with_reducible refine Le.bool (fun _ => ?_) (fun _ => ?_)
    | ((with_reducible refine Le.ret ?_); first | exact rfl | exact Pu.mk)
    | with_reducible refine Le.itq (fun _ => ?_) (fun _ => ?_)
    | exact fun r hr => hrec _ r hr k
noncomputable abbrev x_s_l02NameEnd_j1 (s0 : ByteArray) (s1 : Int) (k : List Fr) : Option Res := go T (enF [.tmp 4] []) v141_j1 k ⟨[.d (D.str s0), .d (D.int .i64 s1), Z, Z, Z, Z, Z, Z, Z, Z, Z, Z, Z, Z, Z, Z, Z, Z, Z, Z, Z, Z, Z, Z, Z, Z, Z, Z, Z, Z, Z, Z, Z, Z, Z, Z, Z, Z, Z, Z, Z, Z], []⟩
noncomputable abbrev q_s_l02NameEnd_j1 (s0 : ByteArray) (s1 : Int) (k : List Fr) (t : Int) (x : Option Res) : Prop := Pu (D.int .i64 t) [] x
theorem p_s_l02NameEnd_j1 (s0 : ByteArray) (s1 : Int) (k : List Fr) : Le (q_s_l02NameEnd_j1 s0 s1 k) (s_l02NameEnd_j1 s0 s1) (x_s_l02NameEnd_j1 s0 s1 k) := by
  unfold s_l02NameEnd_j1 x_s_l02NameEnd_j1 v141_j1
  repeat' (try conv => arg 3; simp (maxSteps := 999999) only [sx, ty, ↓reduceIte, reduceCtorEq, Nat.reduceAdd, Nat.reduceSub, Nat.reduceLeDiff, Nat.reduceEqDiff, Nat.reduceLT, Nat.reduceMul, Nat.reduceBNe, List.reduceReplicate, Int.reduceLE, Int.reduceLT, Int.reduceEq, Int.reduceToNat, Int.reduceNeg, *, w141_1]); first
    | (refine Le.via (p_s_l02NameEnd_l1 _ _ _) fun _ _ _ hy => ?_; try dsimp only [q_s_l02NameEnd_l1] at hy; first | subst hy | obtain ⟨_, rfl⟩ := hy)
    | ((with_reducible refine Le.ret ?_); first | exact rfl | exact Pu.mk)
theorem g_s_l02NameEnd (p0 : ByteArray) (p1 : Int) : Le (fun r x => Pu (D.int .i64 r) [] x) (s_l02NameEnd p0 p1) (vcall T 141 [D.str p0, D.int .i64 p1] []) := by
  unfold s_l02NameEnd
  refine Le.enter (g := v141) rfl rfl rfl rfl ?_
  repeat' (try conv => arg 3; simp (maxSteps := 999999) only [sx, ty, ↓reduceIte, reduceCtorEq, Nat.reduceAdd, Nat.reduceSub, Nat.reduceLeDiff, Nat.reduceEqDiff, Nat.reduceLT, Nat.reduceMul, Nat.reduceBNe, List.reduceReplicate, Int.reduceLE, Int.reduceLT, Int.reduceEq, Int.reduceToNat, Int.reduceNeg, *, w141_1, v141, v141_b]); first
    | (refine Le.call (g_s_l02Letter _) fun _ _ _ hy => ?_; obtain ⟨_, rfl⟩ := hy)
    | exact p_s_l02NameEnd_j1 _ _ _
    | ((with_reducible refine Le.ret ?_); first | exact rfl | exact Pu.mk)
    | with_reducible refine Le.idxB fun _ _ _ _ => ?_
    | with_reducible refine Le.bool (fun _ => ?_) (fun _ => ?_)
    | with_reducible refine Le.itq (fun _ => ?_) (fun _ => ?_)
theorem g_s_IsName (p0 : ByteArray) : Le (fun r x => Pu (D.bool r) [] x) (s_IsName p0) (vcall T 68 [D.str p0] []) := by
  unfold s_IsName
  refine Le.enter (g := v68) rfl rfl rfl rfl ?_
  repeat' (try conv => arg 3; simp (maxSteps := 999999) only [sx, ty, ↓reduceIte, reduceCtorEq, Nat.reduceAdd, Nat.reduceSub, Nat.reduceLeDiff, Nat.reduceEqDiff, Nat.reduceLT, Nat.reduceMul, Nat.reduceBNe, List.reduceReplicate, Int.reduceLE, Int.reduceLT, Int.reduceEq, Int.reduceToNat, Int.reduceNeg, *, v68, v68_b]); first
    | (refine Le.call (g_s_l02NameEnd _ _) fun _ _ _ hy => ?_; obtain ⟨_, rfl⟩ := hy)
    | ((with_reducible refine Le.ret ?_); first | exact rfl | exact Pu.mk)
    | with_reducible refine Le.itq (fun _ => ?_) (fun _ => ?_)
theorem g_s_l06Plain (p0 : TValue) (p1 : Bool) (p2 : Bool) (p3 : Bool) : Le (fun r x => Pu (D.bool r) [] x) (s_l06Plain p0 p1 p2 p3) (vcall T 176 [D.agg [D.int .i64 p0.Kind, D.int .i64 p0.Num, D.str p0.Text, D.int .i64 p0.Ref], D.bool p1, D.bool p2, D.bool p3] []) := by
  unfold s_l06Plain
  refine Le.enter (g := v176) rfl rfl rfl rfl ?_
  repeat' (try conv => arg 3; simp (maxSteps := 999999) only [sx, ty, ↓reduceIte, reduceCtorEq, Nat.reduceAdd, Nat.reduceSub, Nat.reduceLeDiff, Nat.reduceEqDiff, Nat.reduceLT, Nat.reduceMul, Nat.reduceBNe, List.reduceReplicate, Int.reduceLE, Int.reduceLT, Int.reduceEq, Int.reduceToNat, Int.reduceNeg, *, v176, v176_b]); first
    | with_reducible refine Le.bool (fun _ => ?_) (fun _ => ?_)
    | ((with_reducible refine Le.ret ?_); first | exact rfl | exact Pu.mk)
    | with_reducible refine Le.itq (fun _ => ?_) (fun _ => ?_)
theorem g_s_l00In (p0 : Int) (p1 : Int) (p2 : Int) : Le (fun r x => Pu (D.bool r) [] x) (s_l00In p0 p1 p2) (vcall T 177 [D.int .i64 p0, D.int .i64 p1, D.int .i64 p2] []) := by
  unfold s_l00In
  refine Le.enter (g := v177) rfl rfl rfl rfl ?_
  repeat' (try conv => arg 3; simp (maxSteps := 999999) only [sx, ty, ↓reduceIte, reduceCtorEq, Nat.reduceAdd, Nat.reduceSub, Nat.reduceLeDiff, Nat.reduceEqDiff, Nat.reduceLT, Nat.reduceMul, Nat.reduceBNe, List.reduceReplicate, Int.reduceLE, Int.reduceLT, Int.reduceEq, Int.reduceToNat, Int.reduceNeg, *, v177, v177_b]); first
    | ((with_reducible refine Le.ret ?_); first | exact rfl | exact Pu.mk)
    | with_reducible refine Le.itq (fun _ => ?_) (fun _ => ?_)
noncomputable abbrev x_s_ValidValue_j1 (s1 : TValue) (s45 : Bool) (k : List Fr) : Option Res := go T (enF [.tmp 2] []) v108_j1 k ⟨[Z, .box [D.int .i64 s1.Kind, D.int .i64 s1.Num, D.str s1.Text, D.int .i64 s1.Ref], Z, Z, Z, Z, Z, Z, Z, Z, Z, Z, Z, Z, Z, Z, Z, Z, Z, Z, Z, Z, Z, Z, Z, Z, Z, Z, Z, Z, Z, Z, Z, Z, Z, Z, Z, Z, Z, Z, Z, Z, Z, Z, Z, .d (D.bool s45), Z, Z, Z, Z, Z, Z, Z, Z, Z], []⟩
noncomputable abbrev q_s_ValidValue_j1 (s1 : TValue) (s45 : Bool) (k : List Fr) (t : (Bool ⊕ Bool)) (x : Option Res) : Prop := match t with | .inl t => x = bk T (enF [.tmp 2] []) k ⟨[Z, .box [D.int .i64 s1.Kind, D.int .i64 s1.Num, D.str s1.Text, D.int .i64 s1.Ref], Z, Z, Z, Z, Z, Z, Z, Z, Z, Z, Z, Z, Z, Z, Z, Z, Z, Z, Z, Z, Z, Z, Z, Z, Z, Z, Z, Z, Z, Z, Z, Z, Z, Z, Z, Z, Z, Z, Z, Z, Z, Z, Z, .d (D.bool t), Z, Z, Z, Z, Z, Z, Z, Z, Z], []⟩ | .inr t => Pu (D.bool t) [] x
theorem p_s_ValidValue_j1 (s1 : TValue) (s45 : Bool) (k : List Fr) : Le (q_s_ValidValue_j1 s1 s45 k) (s_ValidValue_j1 s1 s45) (x_s_ValidValue_j1 s1 s45 k) := by
  unfold s_ValidValue_j1 x_s_ValidValue_j1 v108_j1
  repeat' (try conv => arg 3; simp (maxSteps := 999999) only [sx, ty, ↓reduceIte, reduceCtorEq, Nat.reduceAdd, Nat.reduceSub, Nat.reduceLeDiff, Nat.reduceEqDiff, Nat.reduceLT, Nat.reduceMul, Nat.reduceBNe, List.reduceReplicate, Int.reduceLE, Int.reduceLT, Int.reduceEq, Int.reduceToNat, Int.reduceNeg, *]); first
    | (refine Le.call (g_s_l06Plain _ _ _ _) fun _ _ _ hy => ?_; obtain ⟨_, rfl⟩ := hy)
    | (refine Le.call (g_s_IsName _) fun _ _ _ hy => ?_; obtain ⟨_, rfl⟩ := hy)
    | with_reducible refine Le.bool (fun _ => ?_) (fun _ => ?_)
    | ((with_reducible refine Le.ret ?_); first | exact rfl | exact Pu.mk)
noncomputable abbrev x_s_ValidValue_j2 (s1 : TValue) (s4 : Int) (s34 : Bool) (k : List Fr) : Option Res := go T (enF [.tmp 2] []) v108_j2 k ⟨[Z, .box [D.int .i64 s1.Kind, D.int .i64 s1.Num, D.str s1.Text, D.int .i64 s1.Ref], Z, Z, .d (D.int .i64 s4), Z, Z, Z, Z, Z, Z, Z, Z, Z, Z, Z, Z, Z, Z, Z, Z, Z, Z, Z, Z, Z, Z, Z, Z, Z, Z, Z, Z, Z, .d (D.bool s34), Z, Z, Z, Z, Z, Z, Z, Z, Z, Z, Z, Z, Z, Z, Z, Z, Z, Z, Z, Z], []⟩
noncomputable abbrev q_s_ValidValue_j2 (s1 : TValue) (s4 : Int) (s34 : Bool) (k : List Fr) (t : (Bool ⊕ Bool)) (x : Option Res) : Prop := match t with | .inl t => x = bk T (enF [.tmp 2] []) k ⟨[Z, .box [D.int .i64 s1.Kind, D.int .i64 s1.Num, D.str s1.Text, D.int .i64 s1.Ref], Z, Z, Z, Z, Z, Z, Z, Z, Z, Z, Z, Z, Z, Z, Z, Z, Z, Z, Z, Z, Z, Z, Z, Z, Z, Z, Z, Z, Z, Z, Z, Z, Z, Z, Z, Z, Z, Z, Z, Z, Z, Z, Z, .d (D.bool t), Z, Z, Z, Z, Z, Z, Z, Z, Z], []⟩ | .inr t => Pu (D.bool t) [] x
theorem p_s_ValidValue_j2 (s1 : TValue) (s4 : Int) (s34 : Bool) (k : List Fr) : Le (q_s_ValidValue_j2 s1 s4 s34 k) (s_ValidValue_j2 s1 s4 s34) (x_s_ValidValue_j2 s1 s4 s34 k) := by
  unfold s_ValidValue_j2 x_s_ValidValue_j2 v108_j2
  repeat' (try conv => arg 3; simp (maxSteps := 999999) only [sx, ty, ↓reduceIte, reduceCtorEq, Nat.reduceAdd, Nat.reduceSub, Nat.reduceLeDiff, Nat.reduceEqDiff, Nat.reduceLT, Nat.reduceMul, Nat.reduceBNe, List.reduceReplicate, Int.reduceLE, Int.reduceLT, Int.reduceEq, Int.reduceToNat, Int.reduceNeg, *]); first
    | (refine Le.call (g_s_l06Plain _ _ _ _) fun _ _ _ hy => ?_; obtain ⟨_, rfl⟩ := hy)
    | (refine Le.call (g_s_l00In _ _ _) fun _ _ _ hy => ?_; obtain ⟨_, rfl⟩ := hy)
    | (refine Le.via (p_s_ValidValue_j1 _ _ _) fun t _ _ hy => ?_; rcases t with t | t <;> (try dsimp only [q_s_ValidValue_j1] at hy; first | subst hy | obtain ⟨_, rfl⟩ := hy))
    | with_reducible refine Le.bool (fun _ => ?_) (fun _ => ?_)
    | ((with_reducible refine Le.ret ?_); first | exact rfl | exact Pu.mk)
    | with_reducible refine Le.itq (fun _ => ?_) (fun _ => ?_)
theorem g_s_ValidValue (p0 : TValue) : Le (fun r x => Pu (D.bool r) [] x) (s_ValidValue p0) (vcall T 108 [D.agg [D.int .i64 p0.Kind, D.int .i64 p0.Num, D.str p0.Text, D.int .i64 p0.Ref]] []) := by
  unfold s_ValidValue
  refine Le.enter (g := v108) rfl rfl rfl rfl ?_
  repeat' (try conv => arg 3; simp (maxSteps := 999999) only [sx, ty, ↓reduceIte, reduceCtorEq, Nat.reduceAdd, Nat.reduceSub, Nat.reduceLeDiff, Nat.reduceEqDiff, Nat.reduceLT, Nat.reduceMul, Nat.reduceBNe, List.reduceReplicate, Int.reduceLE, Int.reduceLT, Int.reduceEq, Int.reduceToNat, Int.reduceNeg, *, v108, v108_b]); first
    | (refine Le.call (g_s_l06Plain _ _ _ _) fun _ _ _ hy => ?_; obtain ⟨_, rfl⟩ := hy)
    | (refine Le.call (g_s_l00In _ _ _) fun _ _ _ hy => ?_; obtain ⟨_, rfl⟩ := hy)
    | (refine Le.via (p_s_ValidValue_j2 _ _ _ _) fun t _ _ hy => ?_; rcases t with t | t <;> (try dsimp only [q_s_ValidValue_j2] at hy; first | subst hy | obtain ⟨_, rfl⟩ := hy))
    | with_reducible refine Le.bool (fun _ => ?_) (fun _ => ?_)
    | ((with_reducible refine Le.ret ?_); first | exact rfl | exact Pu.mk)
    | with_reducible refine Le.itq (fun _ => ?_) (fun _ => ?_)
noncomputable abbrev x_s_l07ValidValues_l1 (s0 : List TValue) (s1 : Int) (s5 : Int) (k : List Fr) : Option Res := go T (enF [.tmp 4] []) v212_m1 (.lp v212_l1 :: .bl 0 :: .sq (.clr [4,5,6,7,8,9,10,11,12,13,14,15,16,17,18,19,20,21]) :: k) ⟨[.d (D.sl false 4 (List.map (TValue.e false) s0)), .d (D.int .i64 s1), Z, Z, Z, .d (D.int .i64 s5), Z, Z, Z, Z, Z, Z, Z, Z, Z, Z, Z, Z, Z, Z, Z, Z], []⟩
noncomputable abbrev q_s_l07ValidValues_l1 (s0 : List TValue) (s1 : Int) (k : List Fr) (t : (Unit ⊕ Bool)) (x : Option Res) : Prop := match t with | .inl t => x = bk T (enF [.tmp 4] []) k ⟨[.d (D.sl false 4 (List.map (TValue.e false) s0)), .d (D.int .i64 s1), Z, Z, Z, Z, Z, Z, Z, Z, Z, Z, Z, Z, Z, Z, Z, Z, Z, Z, Z, Z], []⟩ | .inr t => Pu (D.bool t) [] x
theorem p_s_l07ValidValues_l1 (s0 : List TValue) (s1 : Int) : ∀ (s5 : Int) (k : List Fr), Le (q_s_l07ValidValues_l1 s0 s1 k) (s_l07ValidValues_l1 s0 s1 s5) (x_s_l07ValidValues_l1 s0 s1 s5 k) := by
  intro s5 k
  refine Le.cp (X := x_s_l07ValidValues_l1 s0 s1 s5) (Q := q_s_l07ValidValues_l1 s0 s1) ?_ k
  refine s_l07ValidValues_l1.partial_correctness s0 s1 (motive := fun s5 r => ∀ k : List Fr, q_s_l07ValidValues_l1 s0 s1 k r (x_s_l07ValidValues_l1 s0 s1 s5 k)) ?_ s5
  intro rec hrec s5
  refine Le.pc ?_
  intro k
  unfold x_s_l07ValidValues_l1 v212_m1
  repeat' (try conv => arg 3; simp (maxSteps := 999999) only [sx, ty, ↓reduceIte, reduceCtorEq, Nat.reduceAdd, Nat.reduceSub, Nat.reduceLeDiff, Nat.reduceEqDiff, Nat.reduceLT, Nat.reduceMul, Nat.reduceBNe, List.reduceReplicate, Int.reduceLE, Int.reduceLT, Int.reduceEq, Int.reduceToNat, Int.reduceNeg, *, w212_1]); first
    | (refine Le.call (g_s_ValidValue _) fun _ _ _ hy => ?_; obtain ⟨_, rfl⟩ := hy)
    | with_reducible refine Le.idx fun _ _ _ _ => ?_
    | with_reducible refine Le.bool (fun _ => ?_) (fun _ => ?_)
    | ((with_reducible refine Le.ret ?_); first | exact rfl | exact Pu.mk)
    | with_reducible refine Le.itq (fun _ => ?_) (fun _ => ?_)
    | exact fun r hr => hrec _ r hr k
theorem g_s_l07ValidValues (p0 : List TValue) (p1 : Int) : Le (fun r x => Pu (D.bool r) [] x) (s_l07ValidValues p0 p1) (vcall T 212 [D.sl false 4 (List.map (TValue.e false) p0), D.int .i64 p1] []) := by
  unfold s_l07ValidValues
  refine Le.enter (g := v212) rfl rfl rfl rfl ?_
  repeat' (try conv => arg 3; simp (maxSteps := 999999) only [sx, ty, ↓reduceIte, reduceCtorEq, Nat.reduceAdd, Nat.reduceSub, Nat.reduceLeDiff, Nat.reduceEqDiff, Nat.reduceLT, Nat.reduceMul, Nat.reduceBNe, List.reduceReplicate, Int.reduceLE, Int.reduceLT, Int.reduceEq, Int.reduceToNat, Int.reduceNeg, *, w212_1, v212, v212_b]); first
    | (refine Le.via (p_s_l07ValidValues_l1 _ _ _ _) fun t _ _ hy => ?_; rcases t with t | t <;> (try dsimp only [q_s_l07ValidValues_l1] at hy; first | subst hy | obtain ⟨_, rfl⟩ := hy))
    | ((with_reducible refine Le.ret ?_); first | exact rfl | exact Pu.mk)
    | with_reducible refine Le.itq (fun _ => ?_) (fun _ => ?_)
theorem g_s_SameValue (p0 : TValue) (p1 : TValue) : Le (fun r x => Pu (D.bool r) [] x) (s_SameValue p0 p1) (vcall T 245 [D.agg [D.int .i64 p0.Kind, D.int .i64 p0.Num, D.str p0.Text, D.int .i64 p0.Ref], D.agg [D.int .i64 p1.Kind, D.int .i64 p1.Num, D.str p1.Text, D.int .i64 p1.Ref]] []) := by
  unfold s_SameValue
  refine Le.enter (g := v245) rfl rfl rfl rfl ?_
  try conv => arg 3; simp (maxSteps := 999999) only [sx, ty, ↓reduceIte, reduceCtorEq, Nat.reduceAdd, Nat.reduceSub, Nat.reduceLeDiff, Nat.reduceEqDiff, Nat.reduceLT, Nat.reduceMul, Nat.reduceBNe, List.reduceReplicate, Int.reduceLE, Int.reduceLT, Int.reduceEq, Int.reduceToNat, Int.reduceNeg, *, v245, v245_b]
  ((with_reducible refine Le.ret ?_); first | exact rfl | exact Pu.mk)
noncomputable abbrev x_s_l07Distinct_l1 (s0 : List TValue) (s3 : Int) (s4 : Int) (k : List Fr) : Option Res := go T (enF [.tmp 2] []) v213_m1 (.lp v213_l1 :: .bl 2 :: .sq (.clr [2,4,5,6,7,8,9,10,11,12,13,14,15,16,17,18,19,20,21,22,23,24]) :: k) ⟨[.d (D.sl false 4 (List.map (TValue.e false) s0)), Z, Z, .d (D.int .i64 s3), .d (D.int .i64 s4), Z, Z, Z, Z, Z, Z, Z, Z, Z, Z, Z, Z, Z, Z, Z, Z, Z, Z, Z, Z], []⟩
noncomputable abbrev q_s_l07Distinct_l1 (s0 : List TValue) (s3 : Int) (k : List Fr) (t : (Unit ⊕ Bool)) (x : Option Res) : Prop := match t with | .inl t => x = bk T (enF [.tmp 2] []) k ⟨[.d (D.sl false 4 (List.map (TValue.e false) s0)), Z, Z, .d (D.int .i64 s3), Z, Z, Z, Z, Z, Z, Z, Z, Z, Z, Z, Z, Z, Z, Z, Z, Z, Z, Z, Z, Z], []⟩ | .inr t => Pu (D.bool t) [] x
theorem p_s_l07Distinct_l1 (s0 : List TValue) (s3 : Int) : ∀ (s4 : Int) (k : List Fr), Le (q_s_l07Distinct_l1 s0 s3 k) (s_l07Distinct_l1 s0 s3 s4) (x_s_l07Distinct_l1 s0 s3 s4 k) := by
  intro s4 k
  refine Le.cp (X := x_s_l07Distinct_l1 s0 s3 s4) (Q := q_s_l07Distinct_l1 s0 s3) ?_ k
  refine s_l07Distinct_l1.partial_correctness s0 s3 (motive := fun s4 r => ∀ k : List Fr, q_s_l07Distinct_l1 s0 s3 k r (x_s_l07Distinct_l1 s0 s3 s4 k)) ?_ s4
  intro rec hrec s4
  refine Le.pc ?_
  intro k
  unfold x_s_l07Distinct_l1 v213_m1
  repeat' (try conv => arg 3; simp (maxSteps := 999999) only [sx, ty, ↓reduceIte, reduceCtorEq, Nat.reduceAdd, Nat.reduceSub, Nat.reduceLeDiff, Nat.reduceEqDiff, Nat.reduceLT, Nat.reduceMul, Nat.reduceBNe, List.reduceReplicate, Int.reduceLE, Int.reduceLT, Int.reduceEq, Int.reduceToNat, Int.reduceNeg, *, w213_1, w213_2]); first
    | (refine Le.dcall (g_s_SameValue _ _) fun _ _ _ hy => ?_; obtain ⟨_, rfl⟩ := hy)
    | with_reducible refine Le.idx fun _ _ _ _ => ?_
    | with_reducible refine Le.bool (fun _ => ?_) (fun _ => ?_)
    | ((with_reducible refine Le.ret ?_); first | exact rfl | exact Pu.mk)
    | with_reducible refine Le.itq (fun _ => ?_) (fun _ => ?_)
    | exact fun r hr => hrec _ r hr k
noncomputable abbrev x_s_l07Distinct_l2 (s0 : List TValue) (s3 : Int) (k : List Fr) : Option Res := go T (enF [.tmp 2] []) v213_m2 (.lp v213_l2 :: .bl 0 :: .sq (.clr [2,3,4,5,6,7,8,9,10,11,12,13,14,15,16,17,18,19,20,21,22,23,24]) :: k) ⟨[.d (D.sl false 4 (List.map (TValue.e false) s0)), Z, Z, .d (D.int .i64 s3), Z, Z, Z, Z, Z, Z, Z, Z, Z, Z, Z, Z, Z, Z, Z, Z, Z, Z, Z, Z, Z], []⟩
noncomputable abbrev q_s_l07Distinct_l2 (s0 : List TValue) (k : List Fr) (t : (Unit ⊕ Bool)) (x : Option Res) : Prop := match t with | .inl t => x = bk T (enF [.tmp 2] []) k ⟨[.d (D.sl false 4 (List.map (TValue.e false) s0)), Z, Z, Z, Z, Z, Z, Z, Z, Z, Z, Z, Z, Z, Z, Z, Z, Z, Z, Z, Z, Z, Z, Z, Z], []⟩ | .inr t => Pu (D.bool t) [] x
theorem p_s_l07Distinct_l2 (s0 : List TValue) : ∀ (s3 : Int) (k : List Fr), Le (q_s_l07Distinct_l2 s0 k) (s_l07Distinct_l2 s0 s3) (x_s_l07Distinct_l2 s0 s3 k) := by
  intro s3 k
  refine Le.cp (X := x_s_l07Distinct_l2 s0 s3) (Q := q_s_l07Distinct_l2 s0) ?_ k
  refine s_l07Distinct_l2.partial_correctness s0 (motive := fun s3 r => ∀ k : List Fr, q_s_l07Distinct_l2 s0 k r (x_s_l07Distinct_l2 s0 s3 k)) ?_ s3
  intro rec hrec s3
  refine Le.pc ?_
  intro k
  unfold x_s_l07Distinct_l2 v213_m2
  repeat' (try conv => arg 3; simp (maxSteps := 999999) only [sx, ty, ↓reduceIte, reduceCtorEq, Nat.reduceAdd, Nat.reduceSub, Nat.reduceLeDiff, Nat.reduceEqDiff, Nat.reduceLT, Nat.reduceMul, Nat.reduceBNe, List.reduceReplicate, Int.reduceLE, Int.reduceLT, Int.reduceEq, Int.reduceToNat, Int.reduceNeg, *, w213_1, w213_2]); first
    | (refine Le.via (p_s_l07Distinct_l1 _ _ _ _) fun t _ _ hy => ?_; rcases t with t | t <;> (try dsimp only [q_s_l07Distinct_l1] at hy; first | subst hy | obtain ⟨_, rfl⟩ := hy))
    | ((with_reducible refine Le.ret ?_); first | exact rfl | exact Pu.mk)
    | with_reducible refine Le.itq (fun _ => ?_) (fun _ => ?_)
    | exact fun r hr => hrec _ r hr k
theorem g_s_l07Distinct (p0 : List TValue) : Le (fun r x => Pu (D.bool r) [] x) (s_l07Distinct p0) (vcall T 213 [D.sl false 4 (List.map (TValue.e false) p0)] []) := by
  unfold s_l07Distinct
  refine Le.enter (g := v213) rfl rfl rfl rfl ?_
  repeat' (try conv => arg 3; simp (maxSteps := 999999) only [sx, ty, ↓reduceIte, reduceCtorEq, Nat.reduceAdd, Nat.reduceSub, Nat.reduceLeDiff, Nat.reduceEqDiff, Nat.reduceLT, Nat.reduceMul, Nat.reduceBNe, List.reduceReplicate, Int.reduceLE, Int.reduceLT, Int.reduceEq, Int.reduceToNat, Int.reduceNeg, *, w213_1, w213_2, v213, v213_b]); first
    | (refine Le.via (p_s_l07Distinct_l2 _ _ _) fun t _ _ hy => ?_; rcases t with t | t <;> (try dsimp only [q_s_l07Distinct_l2] at hy; first | subst hy | obtain ⟨_, rfl⟩ := hy))
    | ((with_reducible refine Le.ret ?_); first | exact rfl | exact Pu.mk)
noncomputable abbrev x_s_l07FieldNames_l1 (s0 : List TValue) (s3 : Int) (k : List Fr) : Option Res := go T (enF [.tmp 2] []) v165_m1 (.lp v165_l1 :: .bl 0 :: .sq (.clr [2,3,4,5,6,7,8,9,10,11,12,13,14,15,16,17,18,19,20,21,22,23,24]) :: k) ⟨[.d (D.sl false 4 (List.map (TValue.e false) s0)), Z, Z, .d (D.int .i64 s3), Z, Z, Z, Z, Z, Z, Z, Z, Z, Z, Z, Z, Z, Z, Z, Z, Z, Z, Z, Z, Z, Z, Z, Z, Z, Z, Z, Z, Z, Z, Z, Z], []⟩
noncomputable abbrev q_s_l07FieldNames_l1 (s0 : List TValue) (k : List Fr) (t : (Unit ⊕ Bool)) (x : Option Res) : Prop := match t with | .inl t => x = bk T (enF [.tmp 2] []) k ⟨[.d (D.sl false 4 (List.map (TValue.e false) s0)), Z, Z, Z, Z, Z, Z, Z, Z, Z, Z, Z, Z, Z, Z, Z, Z, Z, Z, Z, Z, Z, Z, Z, Z, Z, Z, Z, Z, Z, Z, Z, Z, Z, Z, Z], []⟩ | .inr t => Pu (D.bool t) [] x
theorem p_s_l07FieldNames_l1 (s0 : List TValue) : ∀ (s3 : Int) (k : List Fr), Le (q_s_l07FieldNames_l1 s0 k) (s_l07FieldNames_l1 s0 s3) (x_s_l07FieldNames_l1 s0 s3 k) := by
  intro s3 k
  refine Le.cp (X := x_s_l07FieldNames_l1 s0 s3) (Q := q_s_l07FieldNames_l1 s0) ?_ k
  refine s_l07FieldNames_l1.partial_correctness s0 (motive := fun s3 r => ∀ k : List Fr, q_s_l07FieldNames_l1 s0 k r (x_s_l07FieldNames_l1 s0 s3 k)) ?_ s3
  intro rec hrec s3
  refine Le.pc ?_
  intro k
  unfold x_s_l07FieldNames_l1 v165_m1
  repeat' (try conv => arg 3; simp (maxSteps := 999999) only [sx, ty, ↓reduceIte, reduceCtorEq, Nat.reduceAdd, Nat.reduceSub, Nat.reduceLeDiff, Nat.reduceEqDiff, Nat.reduceLT, Nat.reduceMul, Nat.reduceBNe, List.reduceReplicate, Int.reduceLE, Int.reduceLT, Int.reduceEq, Int.reduceToNat, Int.reduceNeg, *, w165_1]); first
    | (refine Le.call (g_s_IsName _) fun _ _ _ hy => ?_; obtain ⟨_, rfl⟩ := hy)
    | with_reducible refine Le.idx fun _ _ _ _ => ?_
    | with_reducible refine Le.bool (fun _ => ?_) (fun _ => ?_)
    | ((with_reducible refine Le.ret ?_); first | exact rfl | exact Pu.mk)
    | with_reducible refine Le.itq (fun _ => ?_) (fun _ => ?_)
    | exact fun r hr => hrec _ r hr k
theorem g_s_l07FieldNames (p0 : List TValue) : Le (fun r x => Pu (D.bool r) [] x) (s_l07FieldNames p0) (vcall T 165 [D.sl false 4 (List.map (TValue.e false) p0)] []) := by
  unfold s_l07FieldNames
  refine Le.enter (g := v165) rfl rfl rfl rfl ?_
  repeat' (try conv => arg 3; simp (maxSteps := 999999) only [sx, ty, ↓reduceIte, reduceCtorEq, Nat.reduceAdd, Nat.reduceSub, Nat.reduceLeDiff, Nat.reduceEqDiff, Nat.reduceLT, Nat.reduceMul, Nat.reduceBNe, List.reduceReplicate, Int.reduceLE, Int.reduceLT, Int.reduceEq, Int.reduceToNat, Int.reduceNeg, *, w165_1, v165, v165_b]); first
    | (refine Le.via (p_s_l07FieldNames_l1 _ _ _) fun t _ _ hy => ?_; rcases t with t | t <;> (try dsimp only [q_s_l07FieldNames_l1] at hy; first | subst hy | obtain ⟨_, rfl⟩ := hy))
    | (refine Le.call (g_s_l07ValidValues _ _) fun _ _ _ hy => ?_; obtain ⟨_, rfl⟩ := hy)
    | (refine Le.call (g_s_l07Distinct _) fun _ _ _ hy => ?_; obtain ⟨_, rfl⟩ := hy)
    | with_reducible refine Le.bool (fun _ => ?_) (fun _ => ?_)
    | ((with_reducible refine Le.ret ?_); first | exact rfl | exact Pu.mk)
    | with_reducible refine Le.itq (fun _ => ?_) (fun _ => ?_)
noncomputable abbrev x_s_l09Fields_j1 (s0 : List ByteArray) (s4 : List TValue) (s5 : Int) (k : List Fr) : Option Res := go T (enF [.tmp 2, .tmp 3] []) v92_j1 k ⟨[.d (D.sl false 1 (List.map D.str s0)), Z, Z, Z, .d (D.sl true 4 (List.map (TValue.e false) s4)), .d (D.int .i64 s5), Z, Z, Z, Z, Z, Z, Z, Z, Z, Z, Z, Z, Z, Z, Z, Z, Z, Z, Z, Z, Z, Z], []⟩
noncomputable abbrev q_s_l09Fields_j1 (s0 : List ByteArray) (s4 : List TValue) (s5 : Int) (k : List Fr) (t : ((List TValue) × Int × Int × ByteArray × ByteArray × TValue × (List TValue))) (x : Option Res) : Prop := x = bk T (enF [.tmp 2, .tmp 3] []) k ⟨[.d (D.sl false 1 (List.map D.str s0)), Z, Z, Z, .d (D.sl true 4 (List.map (TValue.e false) t.1)), .d (D.int .i64 t.2.1), Z, Z, Z, Z, Z, Z, Z, Z, Z, .d (D.int .i64 s5), .d (D.int .i64 t.2.2.1), Z, .d (D.sl false 1 (List.map D.str s0)), .d (D.int .i64 s5), .d (D.pim [D.str t.2.2.2.1] 0), .d (D.str t.2.2.2.2.1), .d (D.agg [D.int .i64 t.2.2.2.2.2.1.Kind, D.int .i64 t.2.2.2.2.2.1.Num, D.str t.2.2.2.2.2.1.Text, D.int .i64 t.2.2.2.2.2.1.Ref]), .d (D.sl true 4 (List.map (TValue.e false) t.2.2.2.2.2.2)), Z, Z, Z, Z], []⟩
theorem p_s_l09Fields_j1 (s0 : List ByteArray) (s4 : List TValue) (s5 : Int) (k : List Fr) : Le (q_s_l09Fields_j1 s0 s4 s5 k) (s_l09Fields_j1 s0 s4 s5) (x_s_l09Fields_j1 s0 s4 s5 k) := by
  unfold s_l09Fields_j1 x_s_l09Fields_j1 v92_j1
  try conv => arg 3; simp (maxSteps := 999999) only [sx, ty, ↓reduceIte, reduceCtorEq, Nat.reduceAdd, Nat.reduceSub, Nat.reduceLeDiff, Nat.reduceEqDiff, Nat.reduceLT, Nat.reduceMul, Nat.reduceBNe, List.reduceReplicate, Int.reduceLE, Int.reduceLT, Int.reduceEq, Int.reduceToNat, Int.reduceNeg, *, w92_1]
  refine Le.idx fun a20 h h_1 h_2 => ?_
  try conv => arg 3; simp (maxSteps := 999999) only [sx, ty, ↓reduceIte, reduceCtorEq, Nat.reduceAdd, Nat.reduceSub, Nat.reduceLeDiff, Nat.reduceEqDiff, Nat.reduceLT, Nat.reduceMul, Nat.reduceBNe, List.reduceReplicate, Int.reduceLE, Int.reduceLT, Int.reduceEq, Int.reduceToNat, Int.reduceNeg, *, w92_1]
  refine Le.app fun c24 h_3 h_4 => ?_
  replace h_3 : List.map (TValue.e false) s4 ++ [D.agg [D.int .i64 1, D.int .i64 0, D.str a20, D.int .i64 0]] = List.map (TValue.e false) c24 := by rw [h_3, List.map_append] <;> rfl
  replace h_4 : s4.length + 1 ≤ most := h_4
  try conv => arg 3; simp (maxSteps := 999999) only [sx, ty, ↓reduceIte, reduceCtorEq, Nat.reduceAdd, Nat.reduceSub, Nat.reduceLeDiff, Nat.reduceEqDiff, Nat.reduceLT, Nat.reduceMul, Nat.reduceBNe, List.reduceReplicate, Int.reduceLE, Int.reduceLT, Int.reduceEq, Int.reduceToNat, Int.reduceNeg, *, w92_1]
  ((with_reducible refine Le.ret ?_); first | exact rfl | exact Pu.mk)
noncomputable abbrev x_s_l09Fields_l1 (s0 : List ByteArray) (s4 : List TValue) (s5 : Int) (k : List Fr) : Option Res := go T (enF [.tmp 2, .tmp 3] []) v92_m1 (.lp v92_l1 :: .bl 0 :: .sq (.clr [2,3,5,6,7,8,9,10,11,12,13,14,15,16,17,18,19,20,21,22,23,24]) :: k) ⟨[.d (D.sl false 1 (List.map D.str s0)), Z, Z, Z, .d (D.sl true 4 (List.map (TValue.e false) s4)), .d (D.int .i64 s5), Z, Z, Z, Z, Z, Z, Z, Z, Z, Z, Z, Z, Z, Z, Z, Z, Z, Z, Z, Z, Z, Z], []⟩
noncomputable abbrev q_s_l09Fields_l1 (s0 : List ByteArray) (k : List Fr) (t : ((List TValue))) (x : Option Res) : Prop := x = bk T (enF [.tmp 2, .tmp 3] []) k ⟨[.d (D.sl false 1 (List.map D.str s0)), Z, Z, Z, .d (D.sl true 4 (List.map (TValue.e false) t)), Z, Z, Z, Z, Z, Z, Z, Z, Z, Z, Z, Z, Z, Z, Z, Z, Z, Z, Z, Z, Z, Z, Z], []⟩
theorem p_s_l09Fields_l1 (s0 : List ByteArray) : ∀ (s4 : List TValue) (s5 : Int) (k : List Fr), Le (q_s_l09Fields_l1 s0 k) (s_l09Fields_l1 s0 s4 s5) (x_s_l09Fields_l1 s0 s4 s5 k) := by
  intro s4 s5 k
  refine Le.cp (X := x_s_l09Fields_l1 s0 s4 s5) (Q := q_s_l09Fields_l1 s0) ?_ k
  refine s_l09Fields_l1.partial_correctness s0 (motive := fun s4 s5 r => ∀ k : List Fr, q_s_l09Fields_l1 s0 k r (x_s_l09Fields_l1 s0 s4 s5 k)) ?_ s4 s5
  intro rec hrec s4 s5
  refine Le.pc ?_
  intro k
  unfold x_s_l09Fields_l1 v92_m1
  repeat' (try conv => arg 3; simp (maxSteps := 999999) only [sx, ty, ↓reduceIte, reduceCtorEq, Nat.reduceAdd, Nat.reduceSub, Nat.reduceLeDiff, Nat.reduceEqDiff, Nat.reduceLT, Nat.reduceMul, Nat.reduceBNe, List.reduceReplicate, Int.reduceLE, Int.reduceLT, Int.reduceEq, Int.reduceToNat, Int.reduceNeg, *, w92_1]); first
    | (refine Le.via (p_s_l09Fields_j1 _ _ _ _) fun _ _ _ hy => ?_; try dsimp only [q_s_l09Fields_j1] at hy; first | subst hy | obtain ⟨_, rfl⟩ := hy)
    | ((with_reducible refine Le.ret ?_); first | exact rfl | exact Pu.mk)
    | with_reducible refine Le.itq (fun _ => ?_) (fun _ => ?_)
    | exact fun r hr => hrec _ _ r hr k
theorem g_s_l09Fields (p0 : List ByteArray) : Le (fun r x => Pu (D.tup [D.sl true 4 (List.map (TValue.e false) r.1), D.bool r.2]) [] x) (s_l09Fields p0) (vcall T 92 [D.sl false 1 (List.map D.str p0)] []) := by
  unfold s_l09Fields
  refine Le.enter (g := v92) rfl rfl rfl rfl ?_
  repeat' (try conv => arg 3; simp (maxSteps := 999999) only [sx, ty, ↓reduceIte, reduceCtorEq, Nat.reduceAdd, Nat.reduceSub, Nat.reduceLeDiff, Nat.reduceEqDiff, Nat.reduceLT, Nat.reduceMul, Nat.reduceBNe, List.reduceReplicate, Int.reduceLE, Int.reduceLT, Int.reduceEq, Int.reduceToNat, Int.reduceNeg, *, w92_1, v92, v92_b]); first
    | (refine Le.via (p_s_l09Fields_l1 _ _ _ _) fun _ _ _ hy => ?_; try dsimp only [q_s_l09Fields_l1] at hy; first | subst hy | obtain ⟨_, rfl⟩ := hy)
    | (refine Le.call (g_s_l07FieldNames _) fun _ _ _ hy => ?_; obtain ⟨_, rfl⟩ := hy)
    | ((with_reducible refine Le.ret ?_); first | exact rfl | exact Pu.mk)
noncomputable abbrev x_s_l07Object_j1 (s1 : TObject) (k : List Fr) : Option Res := go T (enF [.tmp 2] []) v214_j1 k ⟨[Z, .box [D.int .i64 s1.Id, D.int .i64 s1.Kind, D.str s1.Name, D.int .i64 s1.Low, D.sl false 4 (List.map (TValue.e false) s1.Keys), D.sl false 4 (List.map (TValue.e false) s1.Vals), D.int .i64 s1.Default.Kind, D.int .i64 s1.Default.Num, D.str s1.Default.Text, D.int .i64 s1.Default.Ref], Z, Z, Z, Z, Z, Z, Z, Z, Z, Z, Z, Z, Z, Z, Z, Z, Z, Z, Z, Z, Z, Z, Z, Z, Z, Z, Z, Z, Z, Z, Z, Z, Z, Z, Z, Z, Z, Z, Z, Z, Z, Z, Z, Z, Z, Z, Z, Z, Z, Z, Z, Z, Z, Z, Z, Z, Z, Z, Z, Z, Z, Z, Z, Z, Z, Z, Z, Z, Z, Z, Z, Z, Z, Z, Z, Z, Z, Z, Z, Z, Z, Z, Z, Z, Z, Z, Z, Z, Z, Z, Z, Z, Z, Z, Z, Z, Z, Z, Z], []⟩
noncomputable abbrev q_s_l07Object_j1 (s1 : TObject) (k : List Fr) (t : Bool) (x : Option Res) : Prop := Pu (D.bool t) [] x
theorem p_s_l07Object_j1 (s1 : TObject) (k : List Fr) : Le (q_s_l07Object_j1 s1 k) (s_l07Object_j1 s1) (x_s_l07Object_j1 s1 k) := by
  unfold s_l07Object_j1 x_s_l07Object_j1 v214_j1
  repeat' (try conv => arg 3; simp (maxSteps := 999999) only [sx, ty, ↓reduceIte, reduceCtorEq, Nat.reduceAdd, Nat.reduceSub, Nat.reduceLeDiff, Nat.reduceEqDiff, Nat.reduceLT, Nat.reduceMul, Nat.reduceBNe, List.reduceReplicate, Int.reduceLE, Int.reduceLT, Int.reduceEq, Int.reduceToNat, Int.reduceNeg, *]); first
    | (refine Le.call (g_s_l00In _ _ _) fun _ _ _ hy => ?_; obtain ⟨_, rfl⟩ := hy)
    | (refine Le.call (g_s_l07ValidValues _ _) fun _ _ _ hy => ?_; obtain ⟨_, rfl⟩ := hy)
    | (refine Le.call (g_s_l07Distinct _) fun _ _ _ hy => ?_; obtain ⟨_, rfl⟩ := hy)
    | (refine Le.call (g_s_ValidValue _) fun _ _ _ hy => ?_; obtain ⟨_, rfl⟩ := hy)
    | (refine Le.call (g_s_IsName _) fun _ _ _ hy => ?_; obtain ⟨_, rfl⟩ := hy)
    | (refine Le.call (g_s_l07FieldNames _) fun _ _ _ hy => ?_; obtain ⟨_, rfl⟩ := hy)
    | with_reducible refine Le.bool (fun _ => ?_) (fun _ => ?_)
    | ((with_reducible refine Le.ret ?_); first | exact rfl | exact Pu.mk)
    | with_reducible refine Le.itq (fun _ => ?_) (fun _ => ?_)
theorem g_s_l07Object (p0 : TObject) : Le (fun r x => Pu (D.bool r) [] x) (s_l07Object p0) (vcall T 214 [D.agg [D.int .i64 p0.Id, D.int .i64 p0.Kind, D.str p0.Name, D.int .i64 p0.Low, D.sl false 4 (List.map (TValue.e false) p0.Keys), D.sl false 4 (List.map (TValue.e false) p0.Vals), D.int .i64 p0.Default.Kind, D.int .i64 p0.Default.Num, D.str p0.Default.Text, D.int .i64 p0.Default.Ref]] []) := by
  unfold s_l07Object
  refine Le.enter (g := v214) rfl rfl rfl rfl ?_
  repeat' (try conv => arg 3; simp (maxSteps := 999999) only [sx, ty, ↓reduceIte, reduceCtorEq, Nat.reduceAdd, Nat.reduceSub, Nat.reduceLeDiff, Nat.reduceEqDiff, Nat.reduceLT, Nat.reduceMul, Nat.reduceBNe, List.reduceReplicate, Int.reduceLE, Int.reduceLT, Int.reduceEq, Int.reduceToNat, Int.reduceNeg, *, v214, v214_b]); first
    | (refine Le.call (g_s_l00In _ _ _) fun _ _ _ hy => ?_; obtain ⟨_, rfl⟩ := hy)
    | (refine Le.call (g_s_l07ValidValues _ _) fun _ _ _ hy => ?_; obtain ⟨_, rfl⟩ := hy)
    | exact p_s_l07Object_j1 _ _
    | with_reducible refine Le.bool (fun _ => ?_) (fun _ => ?_)
    | ((with_reducible refine Le.ret ?_); first | exact rfl | exact Pu.mk)
theorem g_s_l07IsRef (p0 : TValue) : Le (fun r x => Pu (D.bool r) [] x) (s_l07IsRef p0) (vcall T 246 [D.agg [D.int .i64 p0.Kind, D.int .i64 p0.Num, D.str p0.Text, D.int .i64 p0.Ref]] []) := by
  unfold s_l07IsRef
  refine Le.enter (g := v246) rfl rfl rfl rfl ?_
  repeat' (try conv => arg 3; simp (maxSteps := 999999) only [sx, ty, ↓reduceIte, reduceCtorEq, Nat.reduceAdd, Nat.reduceSub, Nat.reduceLeDiff, Nat.reduceEqDiff, Nat.reduceLT, Nat.reduceMul, Nat.reduceBNe, List.reduceReplicate, Int.reduceLE, Int.reduceLT, Int.reduceEq, Int.reduceToNat, Int.reduceNeg, *, v246, v246_b]); first
    | (refine Le.call (g_s_l00In _ _ _) fun _ _ _ hy => ?_; obtain ⟨_, rfl⟩ := hy)
    | ((with_reducible refine Le.ret ?_); first | exact rfl | exact Pu.mk)
noncomputable abbrev x_s_l07Find_l1 (s1 : Int) (g0 : Int) (g0_1 : List TObject) (s5 : Int) (k : List Fr) : Option Res := go T (enF [.tmp 4] []) v247_m1 (.lp v247_l1 :: .bl 0 :: .sq (.clr [4,5,6,7,8,9,10,11,12,13,14,15,16,17,18,19,20,21,22,23,24,25]) :: k) ⟨[.d (D.ref 0 0), .d (D.int .i64 s1), Z, Z, Z, .d (D.int .i64 s5), Z, Z, Z, Z, Z, Z, Z, Z, Z, Z, Z, Z, Z, Z, Z, Z, Z, Z, Z, Z], [[D.int .i64 g0, D.sl false 10 (List.map (TObject.e false) g0_1)]]⟩
noncomputable abbrev q_s_l07Find_l1 (s1 : Int) (g0 : Int) (g0_1 : List TObject) (k : List Fr) (t : (Unit ⊕ Int)) (x : Option Res) : Prop := match t with | .inl t => x = bk T (enF [.tmp 4] []) k ⟨[.d (D.ref 0 0), .d (D.int .i64 s1), Z, Z, Z, Z, Z, Z, Z, Z, Z, Z, Z, Z, Z, Z, Z, Z, Z, Z, Z, Z, Z, Z, Z, Z], [[D.int .i64 g0, D.sl false 10 (List.map (TObject.e false) g0_1)]]⟩ | .inr t => x = some (D.int .i64 t, [], [[D.int .i64 g0, D.sl false 10 (List.map (TObject.e false) g0_1)]])
theorem p_s_l07Find_l1 (s1 : Int) (g0 : Int) (g0_1 : List TObject) : ∀ (s5 : Int) (k : List Fr), Le (q_s_l07Find_l1 s1 g0 g0_1 k) (s_l07Find_l1 s1 g0 g0_1 s5) (x_s_l07Find_l1 s1 g0 g0_1 s5 k) := by
  intro s5 k
  refine Le.cp (X := x_s_l07Find_l1 s1 g0 g0_1 s5) (Q := q_s_l07Find_l1 s1 g0 g0_1) ?_ k
  refine s_l07Find_l1.partial_correctness s1 g0 g0_1 (motive := fun s5 r => ∀ k : List Fr, q_s_l07Find_l1 s1 g0 g0_1 k r (x_s_l07Find_l1 s1 g0 g0_1 s5 k)) ?_ s5
  intro rec hrec s5
  refine Le.pc ?_
  intro k
  unfold x_s_l07Find_l1 v247_m1
  repeat' (try conv => arg 3; simp (maxSteps := 999999) only [sx, ty, ↓reduceIte, reduceCtorEq, Nat.reduceAdd, Nat.reduceSub, Nat.reduceLeDiff, Nat.reduceEqDiff, Nat.reduceLT, Nat.reduceMul, Nat.reduceBNe, List.reduceReplicate, Int.reduceLE, Int.reduceLT, Int.reduceEq, Int.reduceToNat, Int.reduceNeg, *, w247_1]); first
    | with_reducible refine Le.idx fun _ _ _ _ => ?_
    | ((with_reducible refine Le.ret ?_); first | exact rfl | exact Pu.mk)
    | with_reducible refine Le.itq (fun _ => ?_) (fun _ => ?_)
    | exact fun r hr => hrec _ r hr k
theorem g_s_l07Find (p1 : Int) (g0 : Int) (g0_1 : List TObject) : Le (fun r x => x = some (D.int .i64 r, [], [[D.int .i64 g0, D.sl false 10 (List.map (TObject.e false) g0_1)]])) (s_l07Find p1 g0 g0_1) (vcall T 247 [D.ref 0 0, D.int .i64 p1] [[D.int .i64 g0, D.sl false 10 (List.map (TObject.e false) g0_1)]]) := by
  unfold s_l07Find
  refine Le.enter (g := v247) rfl rfl rfl rfl ?_
  repeat' (try conv => arg 3; simp (maxSteps := 999999) only [sx, ty, ↓reduceIte, reduceCtorEq, Nat.reduceAdd, Nat.reduceSub, Nat.reduceLeDiff, Nat.reduceEqDiff, Nat.reduceLT, Nat.reduceMul, Nat.reduceBNe, List.reduceReplicate, Int.reduceLE, Int.reduceLT, Int.reduceEq, Int.reduceToNat, Int.reduceNeg, *, w247_1, v247, v247_b]); first
    | (refine Le.via (p_s_l07Find_l1 _ _ _ _ _) fun t _ _ hy => ?_; rcases t with t | t <;> (try dsimp only [q_s_l07Find_l1] at hy; first | subst hy | obtain ⟨_, rfl⟩ := hy))
    | ((with_reducible refine Le.ret ?_); first | exact rfl | exact Pu.mk)
theorem g_s_l07ObjectKind (p0 : Int) : Le (fun r x => Pu (D.int .i64 r) [] x) (s_l07ObjectKind p0) (vcall T 248 [D.int .i64 p0] []) := by
  unfold s_l07ObjectKind
  refine Le.enter (g := v248) rfl rfl rfl rfl ?_
  try conv => arg 3; simp (maxSteps := 999999) only [sx, ty, ↓reduceIte, reduceCtorEq, Nat.reduceAdd, Nat.reduceSub, Nat.reduceLeDiff, Nat.reduceEqDiff, Nat.reduceLT, Nat.reduceMul, Nat.reduceBNe, List.reduceReplicate, Int.reduceLE, Int.reduceLT, Int.reduceEq, Int.reduceToNat, Int.reduceNeg, *, v248, v248_b]
  ((with_reducible refine Le.ret ?_); first | exact rfl | exact Pu.mk)
theorem g_s_l07Fits (p1 : TValue) (g0 : Int) (g0_1 : List TObject) : Le (fun r x => x = some (D.bool r, [], [[D.int .i64 g0, D.sl false 10 (List.map (TObject.e false) g0_1)]])) (s_l07Fits p1 g0 g0_1) (vcall T 216 [D.ref 0 0, D.agg [D.int .i64 p1.Kind, D.int .i64 p1.Num, D.str p1.Text, D.int .i64 p1.Ref]] [[D.int .i64 g0, D.sl false 10 (List.map (TObject.e false) g0_1)]]) := by
  unfold s_l07Fits
  refine Le.enter (g := v216) rfl rfl rfl rfl ?_
  repeat' (try conv => arg 3; simp (maxSteps := 999999) only [sx, ty, ↓reduceIte, reduceCtorEq, Nat.reduceAdd, Nat.reduceSub, Nat.reduceLeDiff, Nat.reduceEqDiff, Nat.reduceLT, Nat.reduceMul, Nat.reduceBNe, List.reduceReplicate, Int.reduceLE, Int.reduceLT, Int.reduceEq, Int.reduceToNat, Int.reduceNeg, *, v216, v216_b]); first
    | (refine Le.call (g_s_ValidValue _) fun _ _ _ hy => ?_; obtain ⟨_, rfl⟩ := hy)
    | (refine Le.call (g_s_l07IsRef _) fun _ _ _ hy => ?_; obtain ⟨_, rfl⟩ := hy)
    | (refine Le.call (g_s_l07Find _ _ _) fun _ _ _ hy => ?_; subst hy)
    | (refine Le.dcall (g_s_l07ObjectKind _) fun _ _ _ hy => ?_; obtain ⟨_, rfl⟩ := hy)
    | with_reducible refine Le.bool (fun _ => ?_) (fun _ => ?_)
    | with_reducible refine Le.idx fun _ _ _ _ => ?_
    | ((with_reducible refine Le.ret ?_); first | exact rfl | exact Pu.mk)
    | with_reducible refine Le.itq (fun _ => ?_) (fun _ => ?_)
noncomputable abbrev x_s_l07FitAll_l1 (s1 : List TValue) (g0 : Int) (g0_1 : List TObject) (s5 : Int) (k : List Fr) : Option Res := go T (enF [.tmp 4] []) v167_m1 (.lp v167_l1 :: .bl 0 :: .sq (.clr [4,5,6,7,8,9,10,11,12,13,14,15,16,17,18]) :: k) ⟨[.d (D.ref 0 0), .d (D.sl false 4 (List.map (TValue.e false) s1)), Z, Z, Z, .d (D.int .i64 s5), Z, Z, Z, Z, Z, Z, Z, Z, Z, Z, Z, Z, Z], [[D.int .i64 g0, D.sl false 10 (List.map (TObject.e false) g0_1)]]⟩
noncomputable abbrev q_s_l07FitAll_l1 (s1 : List TValue) (g0 : Int) (g0_1 : List TObject) (k : List Fr) (t : (Unit ⊕ Bool)) (x : Option Res) : Prop := match t with | .inl t => x = bk T (enF [.tmp 4] []) k ⟨[.d (D.ref 0 0), .d (D.sl false 4 (List.map (TValue.e false) s1)), Z, Z, Z, Z, Z, Z, Z, Z, Z, Z, Z, Z, Z, Z, Z, Z, Z], [[D.int .i64 g0, D.sl false 10 (List.map (TObject.e false) g0_1)]]⟩ | .inr t => x = some (D.bool t, [], [[D.int .i64 g0, D.sl false 10 (List.map (TObject.e false) g0_1)]])
theorem p_s_l07FitAll_l1 (s1 : List TValue) (g0 : Int) (g0_1 : List TObject) : ∀ (s5 : Int) (k : List Fr), Le (q_s_l07FitAll_l1 s1 g0 g0_1 k) (s_l07FitAll_l1 s1 g0 g0_1 s5) (x_s_l07FitAll_l1 s1 g0 g0_1 s5 k) := by
  intro s5 k
  refine Le.cp (X := x_s_l07FitAll_l1 s1 g0 g0_1 s5) (Q := q_s_l07FitAll_l1 s1 g0 g0_1) ?_ k
  refine s_l07FitAll_l1.partial_correctness s1 g0 g0_1 (motive := fun s5 r => ∀ k : List Fr, q_s_l07FitAll_l1 s1 g0 g0_1 k r (x_s_l07FitAll_l1 s1 g0 g0_1 s5 k)) ?_ s5
  intro rec hrec s5
  refine Le.pc ?_
  intro k
  unfold x_s_l07FitAll_l1 v167_m1
  repeat' (try conv => arg 3; simp (maxSteps := 999999) only [sx, ty, ↓reduceIte, reduceCtorEq, Nat.reduceAdd, Nat.reduceSub, Nat.reduceLeDiff, Nat.reduceEqDiff, Nat.reduceLT, Nat.reduceMul, Nat.reduceBNe, List.reduceReplicate, Int.reduceLE, Int.reduceLT, Int.reduceEq, Int.reduceToNat, Int.reduceNeg, *, w167_1]); first
    | (refine Le.call (g_s_l07Fits _ _ _) fun _ _ _ hy => ?_; subst hy)
    | with_reducible refine Le.idx fun _ _ _ _ => ?_
    | with_reducible refine Le.bool (fun _ => ?_) (fun _ => ?_)
    | ((with_reducible refine Le.ret ?_); first | exact rfl | exact Pu.mk)
    | with_reducible refine Le.itq (fun _ => ?_) (fun _ => ?_)
    | exact fun r hr => hrec _ r hr k
theorem g_s_l07FitAll (p1 : List TValue) (g0 : Int) (g0_1 : List TObject) : Le (fun r x => x = some (D.bool r, [], [[D.int .i64 g0, D.sl false 10 (List.map (TObject.e false) g0_1)]])) (s_l07FitAll p1 g0 g0_1) (vcall T 167 [D.ref 0 0, D.sl false 4 (List.map (TValue.e false) p1)] [[D.int .i64 g0, D.sl false 10 (List.map (TObject.e false) g0_1)]]) := by
  unfold s_l07FitAll
  refine Le.enter (g := v167) rfl rfl rfl rfl ?_
  repeat' (try conv => arg 3; simp (maxSteps := 999999) only [sx, ty, ↓reduceIte, reduceCtorEq, Nat.reduceAdd, Nat.reduceSub, Nat.reduceLeDiff, Nat.reduceEqDiff, Nat.reduceLT, Nat.reduceMul, Nat.reduceBNe, List.reduceReplicate, Int.reduceLE, Int.reduceLT, Int.reduceEq, Int.reduceToNat, Int.reduceNeg, *, w167_1, v167, v167_b]); first
    | (refine Le.via (p_s_l07FitAll_l1 _ _ _ _ _) fun t _ _ hy => ?_; rcases t with t | t <;> (try dsimp only [q_s_l07FitAll_l1] at hy; first | subst hy | obtain ⟨_, rfl⟩ := hy))
    | ((with_reducible refine Le.ret ?_); first | exact rfl | exact Pu.mk)
theorem g_s_l07Refs (p1 : Int) (p1_1 : Int) (p1_2 : ByteArray) (p1_3 : Int) (p1_4 : List TValue) (p1_5 : List TValue) (p1_6 : Int) (p1_7 : Int) (p1_8 : ByteArray) (p1_9 : Int) (g0 : Int) (g0_1 : List TObject) : Le (fun r x => x = some (D.bool r, [], [[D.int .i64 g0, D.sl false 10 (List.map (TObject.e false) g0_1)]])) (s_l07Refs p1 p1_1 p1_2 p1_3 p1_4 p1_5 p1_6 p1_7 p1_8 p1_9 g0 g0_1) (vcall T 215 [D.ref 0 0, D.pim [D.int .i64 p1, D.int .i64 p1_1, D.str p1_2, D.int .i64 p1_3, D.sl false 4 (List.map (TValue.e false) p1_4), D.sl false 4 (List.map (TValue.e false) p1_5), D.int .i64 p1_6, D.int .i64 p1_7, D.str p1_8, D.int .i64 p1_9] 0] [[D.int .i64 g0, D.sl false 10 (List.map (TObject.e false) g0_1)]]) := by
  unfold s_l07Refs
  refine Le.enter (g := v215) rfl rfl rfl rfl ?_
  repeat' (try conv => arg 3; simp (maxSteps := 999999) only [sx, ty, ↓reduceIte, reduceCtorEq, Nat.reduceAdd, Nat.reduceSub, Nat.reduceLeDiff, Nat.reduceEqDiff, Nat.reduceLT, Nat.reduceMul, Nat.reduceBNe, List.reduceReplicate, Int.reduceLE, Int.reduceLT, Int.reduceEq, Int.reduceToNat, Int.reduceNeg, *, v215, v215_b]); first
    | (refine Le.call (g_s_l07FitAll _ _ _) fun _ _ _ hy => ?_; subst hy)
    | (refine Le.call (g_s_l07Fits _ _ _) fun _ _ _ hy => ?_; subst hy)
    | with_reducible refine Le.bool (fun _ => ?_) (fun _ => ?_)
    | ((with_reducible refine Le.ret ?_); first | exact rfl | exact Pu.mk)
    | with_reducible refine Le.itq (fun _ => ?_) (fun _ => ?_)
noncomputable abbrev x_s_l07Ok_l1 (g0 : Int) (g0_1 : List TObject) (s3 : Int) (k : List Fr) : Option Res := go T (enF [.tmp 2] []) v166_m1 (.lp v166_l1 :: .bl 0 :: .sq (.clr [2,3,4,6,7,8,9,10,11,12,13,14,15,16,17,18,19,20,21,22,23,24,25,26,27,28,29,30,31,32,33,34,35,36,37,38,39,40,41,42,43,44,45,46,47,48,49,50,51,52,53,54,55,56,57,58,59,60,61,62,63,64,65]) :: k) ⟨[.d (D.ref 0 0), Z, Z, .d (D.int .i64 s3), Z, Z, Z, Z, Z, Z, Z, Z, Z, Z, Z, Z, Z, Z, Z, Z, Z, Z, Z, Z, Z, Z, Z, Z, Z, Z, Z, Z, Z, Z, Z, Z, Z, Z, Z, Z, Z, Z, Z, Z, Z, Z, Z, Z, Z, Z, Z, Z, Z, Z, Z, Z, Z, Z, Z, Z, Z, Z, Z, Z, Z, Z, Z, Z, Z, Z, Z, Z, Z, Z, Z, Z, Z, Z, Z, Z, Z, Z, Z, Z], [[D.int .i64 g0, D.sl false 10 (List.map (TObject.e false) g0_1)]]⟩
noncomputable abbrev q_s_l07Ok_l1 (g0 : Int) (g0_1 : List TObject) (k : List Fr) (t : (Unit ⊕ Bool)) (x : Option Res) : Prop := match t with | .inl t => x = bk T (enF [.tmp 2] []) k ⟨[.d (D.ref 0 0), Z, Z, Z, Z, Z, Z, Z, Z, Z, Z, Z, Z, Z, Z, Z, Z, Z, Z, Z, Z, Z, Z, Z, Z, Z, Z, Z, Z, Z, Z, Z, Z, Z, Z, Z, Z, Z, Z, Z, Z, Z, Z, Z, Z, Z, Z, Z, Z, Z, Z, Z, Z, Z, Z, Z, Z, Z, Z, Z, Z, Z, Z, Z, Z, Z, Z, Z, Z, Z, Z, Z, Z, Z, Z, Z, Z, Z, Z, Z, Z, Z, Z, Z], [[D.int .i64 g0, D.sl false 10 (List.map (TObject.e false) g0_1)]]⟩ | .inr t => x = some (D.bool t, [], [[D.int .i64 g0, D.sl false 10 (List.map (TObject.e false) g0_1)]])
theorem p_s_l07Ok_l1 (g0 : Int) (g0_1 : List TObject) : ∀ (s3 : Int) (k : List Fr), Le (q_s_l07Ok_l1 g0 g0_1 k) (s_l07Ok_l1 g0 g0_1 s3) (x_s_l07Ok_l1 g0 g0_1 s3 k) := by
  intro s3 k
  refine Le.cp (X := x_s_l07Ok_l1 g0 g0_1 s3) (Q := q_s_l07Ok_l1 g0 g0_1) ?_ k
  refine s_l07Ok_l1.partial_correctness g0 g0_1 (motive := fun s3 r => ∀ k : List Fr, q_s_l07Ok_l1 g0 g0_1 k r (x_s_l07Ok_l1 g0 g0_1 s3 k)) ?_ s3
  intro rec hrec s3
  refine Le.pc ?_
  intro k
  unfold x_s_l07Ok_l1 v166_m1
  repeat' (try conv => arg 3; simp (maxSteps := 999999) only [sx, ty, ↓reduceIte, reduceCtorEq, Nat.reduceAdd, Nat.reduceSub, Nat.reduceLeDiff, Nat.reduceEqDiff, Nat.reduceLT, Nat.reduceMul, Nat.reduceBNe, List.reduceReplicate, Int.reduceLE, Int.reduceLT, Int.reduceEq, Int.reduceToNat, Int.reduceNeg, *, w166_1, w166_2]); first
    | (refine Le.dcall (g_s_l07Object _) fun _ _ _ hy => ?_; obtain ⟨_, rfl⟩ := hy)
    | with_reducible refine Le.idx fun _ _ _ _ => ?_
    | with_reducible refine Le.bool (fun _ => ?_) (fun _ => ?_)
    | ((with_reducible refine Le.ret ?_); first | exact rfl | exact Pu.mk)
    | with_reducible refine Le.itq (fun _ => ?_) (fun _ => ?_)
    | exact fun r hr => hrec _ r hr k
noncomputable abbrev x_s_l07Ok_l2 (g0 : Int) (g0_1 : List TObject) (s5 : Int) (k : List Fr) : Option Res := go T (enF [.tmp 2] []) v166_m2 (.lp v166_l2 :: .bl 2 :: .sq (.clr [2,3,4,5,6,7,8,9,10,11,12,13,14,15,16,17,18,19,20,21,22,23,24,25,26,27,28,29,30,31,32,33,34,35,36,37,38,39,40,41,42,43,44,45,46,47,48,49,50,51,52,53,54,55,56,57,58,59,60,61,62,63,64,65,66,67,68,69,70,71,72,73,74,75,76,77,78,79,80,81,82,83]) :: k) ⟨[.d (D.ref 0 0), Z, Z, Z, Z, .d (D.int .i64 s5), Z, Z, Z, Z, Z, Z, Z, Z, Z, Z, Z, Z, Z, Z, Z, Z, Z, Z, Z, Z, Z, Z, Z, Z, Z, Z, Z, Z, Z, Z, Z, Z, Z, Z, Z, Z, Z, Z, Z, Z, Z, Z, Z, Z, Z, Z, Z, Z, Z, Z, Z, Z, Z, Z, Z, Z, Z, Z, Z, Z, Z, Z, Z, Z, Z, Z, Z, Z, Z, Z, Z, Z, Z, Z, Z, Z, Z, Z], [[D.int .i64 g0, D.sl false 10 (List.map (TObject.e false) g0_1)]]⟩
noncomputable abbrev q_s_l07Ok_l2 (g0 : Int) (g0_1 : List TObject) (k : List Fr) (t : (Unit ⊕ Bool)) (x : Option Res) : Prop := match t with | .inl t => x = bk T (enF [.tmp 2] []) k ⟨[.d (D.ref 0 0), Z, Z, Z, Z, Z, Z, Z, Z, Z, Z, Z, Z, Z, Z, Z, Z, Z, Z, Z, Z, Z, Z, Z, Z, Z, Z, Z, Z, Z, Z, Z, Z, Z, Z, Z, Z, Z, Z, Z, Z, Z, Z, Z, Z, Z, Z, Z, Z, Z, Z, Z, Z, Z, Z, Z, Z, Z, Z, Z, Z, Z, Z, Z, Z, Z, Z, Z, Z, Z, Z, Z, Z, Z, Z, Z, Z, Z, Z, Z, Z, Z, Z, Z], [[D.int .i64 g0, D.sl false 10 (List.map (TObject.e false) g0_1)]]⟩ | .inr t => x = some (D.bool t, [], [[D.int .i64 g0, D.sl false 10 (List.map (TObject.e false) g0_1)]])
theorem p_s_l07Ok_l2 (g0 : Int) (g0_1 : List TObject) : ∀ (s5 : Int) (k : List Fr), Le (q_s_l07Ok_l2 g0 g0_1 k) (s_l07Ok_l2 g0 g0_1 s5) (x_s_l07Ok_l2 g0 g0_1 s5 k) := by
  intro s5 k
  refine Le.cp (X := x_s_l07Ok_l2 g0 g0_1 s5) (Q := q_s_l07Ok_l2 g0 g0_1) ?_ k
  refine s_l07Ok_l2.partial_correctness g0 g0_1 (motive := fun s5 r => ∀ k : List Fr, q_s_l07Ok_l2 g0 g0_1 k r (x_s_l07Ok_l2 g0 g0_1 s5 k)) ?_ s5
  intro rec hrec s5
  refine Le.pc ?_
  intro k
  unfold x_s_l07Ok_l2 v166_m2
  repeat' (try conv => arg 3; simp (maxSteps := 999999) only [sx, ty, ↓reduceIte, reduceCtorEq, Nat.reduceAdd, Nat.reduceSub, Nat.reduceLeDiff, Nat.reduceEqDiff, Nat.reduceLT, Nat.reduceMul, Nat.reduceBNe, List.reduceReplicate, Int.reduceLE, Int.reduceLT, Int.reduceEq, Int.reduceToNat, Int.reduceNeg, *, w166_1, w166_2]); first
    | (refine Le.call (g_s_l07Refs _ _ _ _ _ _ _ _ _ _ _ _) fun _ _ _ hy => ?_; subst hy)
    | with_reducible refine Le.idx fun _ _ _ _ => ?_
    | with_reducible refine Le.bool (fun _ => ?_) (fun _ => ?_)
    | ((with_reducible refine Le.ret ?_); first | exact rfl | exact Pu.mk)
    | with_reducible refine Le.itq (fun _ => ?_) (fun _ => ?_)
    | exact fun r hr => hrec _ r hr k
noncomputable abbrev x_s_l07Ok_j1 (g0 : Int) (g0_1 : List TObject) (k : List Fr) : Option Res := go T (enF [.tmp 2] []) v166_j1 k ⟨[.d (D.ref 0 0), Z, Z, Z, Z, Z, Z, Z, Z, Z, Z, Z, Z, Z, Z, Z, Z, Z, Z, Z, Z, Z, Z, Z, Z, Z, Z, Z, Z, Z, Z, Z, Z, Z, Z, Z, Z, Z, Z, Z, Z, Z, Z, Z, Z, Z, Z, Z, Z, Z, Z, Z, Z, Z, Z, Z, Z, Z, Z, Z, Z, Z, Z, Z, Z, Z, Z, Z, Z, Z, Z, Z, Z, Z, Z, Z, Z, Z, Z, Z, Z, Z, Z, Z], [[D.int .i64 g0, D.sl false 10 (List.map (TObject.e false) g0_1)]]⟩
noncomputable abbrev q_s_l07Ok_j1 (g0 : Int) (g0_1 : List TObject) (k : List Fr) (t : Bool) (x : Option Res) : Prop := x = some (D.bool t, [], [[D.int .i64 g0, D.sl false 10 (List.map (TObject.e false) g0_1)]])
theorem p_s_l07Ok_j1 (g0 : Int) (g0_1 : List TObject) (k : List Fr) : Le (q_s_l07Ok_j1 g0 g0_1 k) (s_l07Ok_j1 g0 g0_1) (x_s_l07Ok_j1 g0 g0_1 k) := by
  unfold s_l07Ok_j1 x_s_l07Ok_j1 v166_j1
  repeat' (try conv => arg 3; simp (maxSteps := 999999) only [sx, ty, ↓reduceIte, reduceCtorEq, Nat.reduceAdd, Nat.reduceSub, Nat.reduceLeDiff, Nat.reduceEqDiff, Nat.reduceLT, Nat.reduceMul, Nat.reduceBNe, List.reduceReplicate, Int.reduceLE, Int.reduceLT, Int.reduceEq, Int.reduceToNat, Int.reduceNeg, *, w166_1, w166_2]); first
    | (refine Le.via (p_s_l07Ok_l1 _ _ _ _) fun t _ _ hy => ?_; rcases t with t | t <;> (try dsimp only [q_s_l07Ok_l1] at hy; first | subst hy | obtain ⟨_, rfl⟩ := hy))
    | (refine Le.via (p_s_l07Ok_l2 _ _ _ _) fun t _ _ hy => ?_; rcases t with t | t <;> (try dsimp only [q_s_l07Ok_l2] at hy; first | subst hy | obtain ⟨_, rfl⟩ := hy))
    | ((with_reducible refine Le.ret ?_); first | exact rfl | exact Pu.mk)
theorem g_s_l07Ok (g0 : Int) (g0_1 : List TObject) : Le (fun r x => x = some (D.bool r, [], [[D.int .i64 g0, D.sl false 10 (List.map (TObject.e false) g0_1)]])) (s_l07Ok g0 g0_1) (vcall T 166 [D.ref 0 0] [[D.int .i64 g0, D.sl false 10 (List.map (TObject.e false) g0_1)]]) := by
  unfold s_l07Ok
  refine Le.enter (g := v166) rfl rfl rfl rfl ?_
  repeat' (try conv => arg 3; simp (maxSteps := 999999) only [sx, ty, ↓reduceIte, reduceCtorEq, Nat.reduceAdd, Nat.reduceSub, Nat.reduceLeDiff, Nat.reduceEqDiff, Nat.reduceLT, Nat.reduceMul, Nat.reduceBNe, List.reduceReplicate, Int.reduceLE, Int.reduceLT, Int.reduceEq, Int.reduceToNat, Int.reduceNeg, *, w166_1, w166_2, v166, v166_b]); first
    | (refine Le.call (g_s_l00In _ _ _) fun _ _ _ hy => ?_; obtain ⟨_, rfl⟩ := hy)
    | exact p_s_l07Ok_j1 _ _ _
    | with_reducible refine Le.bool (fun _ => ?_) (fun _ => ?_)
    | ((with_reducible refine Le.ret ?_); first | exact rfl | exact Pu.mk)
    | with_reducible refine Le.itq (fun _ => ?_) (fun _ => ?_)
theorem g_s_l09Fit (p1 : List TValue) (g0 : Int) (g0_1 : List TObject) : Le (fun r x => x = some (D.bool r, [], [[D.int .i64 g0, D.sl false 10 (List.map (TObject.e false) g0_1)]])) (s_l09Fit p1 g0 g0_1) (vcall T 93 [D.ref 0 0, D.sl false 4 (List.map (TValue.e false) p1)] [[D.int .i64 g0, D.sl false 10 (List.map (TObject.e false) g0_1)]]) := by
  unfold s_l09Fit
  refine Le.enter (g := v93) rfl rfl rfl rfl ?_
  repeat' (try conv => arg 3; simp (maxSteps := 999999) only [sx, ty, ↓reduceIte, reduceCtorEq, Nat.reduceAdd, Nat.reduceSub, Nat.reduceLeDiff, Nat.reduceEqDiff, Nat.reduceLT, Nat.reduceMul, Nat.reduceBNe, List.reduceReplicate, Int.reduceLE, Int.reduceLT, Int.reduceEq, Int.reduceToNat, Int.reduceNeg, *, v93, v93_b]); first
    | (refine Le.call (g_s_l07Ok _ _) fun _ _ _ hy => ?_; subst hy)
    | (refine Le.call (g_s_l07FitAll _ _ _) fun _ _ _ hy => ?_; subst hy)
    | with_reducible refine Le.bool (fun _ => ?_) (fun _ => ?_)
    | ((with_reducible refine Le.ret ?_); first | exact rfl | exact Pu.mk)
theorem g_s_l07OwnValues (p0 : List TValue) : Le (fun r x => Pu (D.sl true 4 (List.map (TValue.e false) r)) [] x) (s_l07OwnValues p0) (vcall T 94 [D.sl false 4 (List.map (TValue.e false) p0)] []) := by
  unfold s_l07OwnValues
  refine Le.enter (g := v94) rfl rfl rfl rfl ?_
  repeat' (try conv => arg 3; simp (maxSteps := 999999) only [sx, ty, ↓reduceIte, reduceCtorEq, Nat.reduceAdd, Nat.reduceSub, Nat.reduceLeDiff, Nat.reduceEqDiff, Nat.reduceLT, Nat.reduceMul, Nat.reduceBNe, List.reduceReplicate, Int.reduceLE, Int.reduceLT, Int.reduceEq, Int.reduceToNat, Int.reduceNeg, *, v94, v94_b]); first
    | with_reducible refine Le.chk fun _ => ?_
    | ((with_reducible refine Le.ret ?_); first | exact rfl | exact Pu.mk)
theorem g_s_l07OwnObject (p0 : TObject) : Le (fun r x => Pu (D.agg [D.int .i64 r.Id, D.int .i64 r.Kind, D.str r.Name, D.int .i64 r.Low, D.sl true 4 (List.map (TValue.e false) r.Keys), D.sl true 4 (List.map (TValue.e false) r.Vals), D.int .i64 r.Default.Kind, D.int .i64 r.Default.Num, D.str r.Default.Text, D.int .i64 r.Default.Ref]) [] x) (s_l07OwnObject p0) (vcall T 218 [D.agg [D.int .i64 p0.Id, D.int .i64 p0.Kind, D.str p0.Name, D.int .i64 p0.Low, D.sl false 4 (List.map (TValue.e false) p0.Keys), D.sl false 4 (List.map (TValue.e false) p0.Vals), D.int .i64 p0.Default.Kind, D.int .i64 p0.Default.Num, D.str p0.Default.Text, D.int .i64 p0.Default.Ref]] []) := by
  unfold s_l07OwnObject
  refine Le.enter (g := v218) rfl rfl rfl rfl ?_
  repeat' (try conv => arg 3; simp (maxSteps := 999999) only [sx, ty, ↓reduceIte, reduceCtorEq, Nat.reduceAdd, Nat.reduceSub, Nat.reduceLeDiff, Nat.reduceEqDiff, Nat.reduceLT, Nat.reduceMul, Nat.reduceBNe, List.reduceReplicate, Int.reduceLE, Int.reduceLT, Int.reduceEq, Int.reduceToNat, Int.reduceNeg, *, v218, v218_b]); first
    | (refine Le.call (g_s_l07OwnValues _) fun _ _ _ hy => ?_; obtain ⟨_, rfl⟩ := hy)
    | ((with_reducible refine Le.ret ?_); first | exact rfl | exact Pu.mk)
noncomputable abbrev x_s_l07Own_l1 (s2 : THeap) (g0 : Int) (g0_1 : List TObject) (s3 : THeap) (s4 : Int) (k : List Fr) : Option Res := go T (enF [.cell 2 (.many 2)] []) v217_m1 (.lp v217_l1 :: .bl 0 :: .sq (.clr [4,5,6,7,8,9,10,11,12,13,14,15,16,17,18,19,20,21,22,23,24,25,26,27,28,29,30,31]) :: k) ⟨[.d (D.ref 0 0), Z, .box [D.int .i64 s2.Next, D.sl true 10 (List.map (TObject.e true) s2.Objects)], .box [D.int .i64 s3.Next, D.sl true 10 (List.map (TObject.e true) s3.Objects)], .d (D.int .i64 s4), Z, Z, Z, Z, Z, Z, Z, Z, Z, Z, Z, Z, Z, Z, Z, Z, Z, Z, Z, Z, Z, Z, Z, Z, Z, Z, Z, Z], [[D.int .i64 g0, D.sl false 10 (List.map (TObject.e false) g0_1)]]⟩
noncomputable abbrev q_s_l07Own_l1 (s2 : THeap) (g0 : Int) (g0_1 : List TObject) (k : List Fr) (t : THeap) (x : Option Res) : Prop := x = bk T (enF [.cell 2 (.many 2)] []) k ⟨[.d (D.ref 0 0), Z, .box [D.int .i64 s2.Next, D.sl true 10 (List.map (TObject.e true) s2.Objects)], .box [D.int .i64 t.Next, D.sl true 10 (List.map (TObject.e true) t.Objects)], Z, Z, Z, Z, Z, Z, Z, Z, Z, Z, Z, Z, Z, Z, Z, Z, Z, Z, Z, Z, Z, Z, Z, Z, Z, Z, Z, Z, Z], [[D.int .i64 g0, D.sl false 10 (List.map (TObject.e false) g0_1)]]⟩
theorem p_s_l07Own_l1 (s2 : THeap) (g0 : Int) (g0_1 : List TObject) : ∀ (s3 : THeap) (s4 : Int) (k : List Fr), Le (q_s_l07Own_l1 s2 g0 g0_1 k) (s_l07Own_l1 s2 g0 g0_1 s3 s4) (x_s_l07Own_l1 s2 g0 g0_1 s3 s4 k) := by
  intro s3 s4 k
  refine Le.cp (X := x_s_l07Own_l1 s2 g0 g0_1 s3 s4) (Q := q_s_l07Own_l1 s2 g0 g0_1) ?_ k
  refine s_l07Own_l1.partial_correctness s2 g0 g0_1 (motive := fun s3 s4 r => ∀ k : List Fr, q_s_l07Own_l1 s2 g0 g0_1 k r (x_s_l07Own_l1 s2 g0 g0_1 s3 s4 k)) ?_ s3 s4
  intro rec hrec s3 s4
  refine Le.pc ?_
  intro k
  unfold x_s_l07Own_l1 v217_m1
  try conv => arg 3; simp (maxSteps := 999999) only [sx, ty, ↓reduceIte, reduceCtorEq, Nat.reduceAdd, Nat.reduceSub, Nat.reduceLeDiff, Nat.reduceEqDiff, Nat.reduceLT, Nat.reduceMul, Nat.reduceBNe, List.reduceReplicate, Int.reduceLE, Int.reduceLT, Int.reduceEq, Int.reduceToNat, Int.reduceNeg, *, w217_1]
  refine Le.itq (fun h => ?_) (fun h => ?_)
  · try conv => arg 3; simp (maxSteps := 999999) only [sx, ty, ↓reduceIte, reduceCtorEq, Nat.reduceAdd, Nat.reduceSub, Nat.reduceLeDiff, Nat.reduceEqDiff, Nat.reduceLT, Nat.reduceMul, Nat.reduceBNe, List.reduceReplicate, Int.reduceLE, Int.reduceLT, Int.reduceEq, Int.reduceToNat, Int.reduceNeg, *, w217_1]
    refine Le.idx fun a26 h_1 h_2 h_3 => ?_
    try conv => arg 3; simp (maxSteps := 999999) only [sx, ty, ↓reduceIte, reduceCtorEq, Nat.reduceAdd, Nat.reduceSub, Nat.reduceLeDiff, Nat.reduceEqDiff, Nat.reduceLT, Nat.reduceMul, Nat.reduceBNe, List.reduceReplicate, Int.reduceLE, Int.reduceLT, Int.reduceEq, Int.reduceToNat, Int.reduceNeg, *, w217_1]
    refine Le.dcall (g_s_l07OwnObject a26) fun r28 h_4 _ hy => ?_
    obtain ⟨_, rfl⟩ := hy
    try conv => arg 3; simp (maxSteps := 999999) only [sx, ty, ↓reduceIte, reduceCtorEq, Nat.reduceAdd, Nat.reduceSub, Nat.reduceLeDiff, Nat.reduceEqDiff, Nat.reduceLT, Nat.reduceMul, Nat.reduceBNe, List.reduceReplicate, Int.reduceLE, Int.reduceLT, Int.reduceEq, Int.reduceToNat, Int.reduceNeg, *, w217_1]
    refine Le.app fun c30 h_5 h_6 => ?_
    replace h_5 : List.map (TObject.e true) s3.Objects ++ [D.agg [D.int .i64 r28.Id, D.int .i64 r28.Kind, D.str r28.Name, D.int .i64 r28.Low, D.sl true 4 (List.map (TValue.e false) r28.Keys), D.sl true 4 (List.map (TValue.e false) r28.Vals), D.int .i64 r28.Default.Kind, D.int .i64 r28.Default.Num, D.str r28.Default.Text, D.int .i64 r28.Default.Ref]] = List.map (TObject.e true) c30 := by rw [h_5, List.map_append] <;> rfl
    replace h_6 : s3.Objects.length + 1 ≤ most := h_6
    try conv => arg 3; simp (maxSteps := 999999) only [sx, ty, ↓reduceIte, reduceCtorEq, Nat.reduceAdd, Nat.reduceSub, Nat.reduceLeDiff, Nat.reduceEqDiff, Nat.reduceLT, Nat.reduceMul, Nat.reduceBNe, List.reduceReplicate, Int.reduceLE, Int.reduceLT, Int.reduceEq, Int.reduceToNat, Int.reduceNeg, *, w217_1]
    exact fun r hr => hrec _ _ r hr k
  · try conv => arg 3; simp (maxSteps := 999999) only [sx, ty, ↓reduceIte, reduceCtorEq, Nat.reduceAdd, Nat.reduceSub, Nat.reduceLeDiff, Nat.reduceEqDiff, Nat.reduceLT, Nat.reduceMul, Nat.reduceBNe, List.reduceReplicate, Int.reduceLE, Int.reduceLT, Int.reduceEq, Int.reduceToNat, Int.reduceNeg, *, w217_1]
    ((with_reducible refine Le.ret ?_); first | exact rfl | exact Pu.mk)
theorem g_s_l07Own (g0 : Int) (g0_1 : List TObject) : Le (fun r x => x = some (D.agg [D.int .i64 r.Next, D.sl true 10 (List.map (TObject.e true) r.Objects)], [], [[D.int .i64 g0, D.sl false 10 (List.map (TObject.e false) g0_1)]])) (s_l07Own g0 g0_1) (vcall T 217 [D.ref 0 0] [[D.int .i64 g0, D.sl false 10 (List.map (TObject.e false) g0_1)]]) := by
  unfold s_l07Own
  refine Le.enter (g := v217) rfl rfl rfl rfl ?_
  repeat' (try conv => arg 3; simp (maxSteps := 999999) only [sx, ty, ↓reduceIte, reduceCtorEq, Nat.reduceAdd, Nat.reduceSub, Nat.reduceLeDiff, Nat.reduceEqDiff, Nat.reduceLT, Nat.reduceMul, Nat.reduceBNe, List.reduceReplicate, Int.reduceLE, Int.reduceLT, Int.reduceEq, Int.reduceToNat, Int.reduceNeg, *, w217_1, v217, v217_b]); first
    | (refine Le.via (p_s_l07Own_l1 _ _ _ _ _ _) fun _ _ _ hy => ?_; try dsimp only [q_s_l07Own_l1] at hy; first | subst hy | obtain ⟨_, rfl⟩ := hy)
    | ((with_reducible refine Le.ret ?_); first | exact rfl | exact Pu.mk)
noncomputable abbrev x_s_l07Add_j1 (s3 : TObject) (s4 : THeap) (g0 : Int) (g0_1 : List TObject) (k : List Fr) : Option Res := go T (enF [.cell 4 (.many 2), .tmp 5, .tmp 6] []) v168_j1 k ⟨[.d (D.ref 0 0), Z, Z, .box [D.int .i64 s3.Id, D.int .i64 s3.Kind, D.str s3.Name, D.int .i64 s3.Low, D.sl true 4 (List.map (TValue.e false) s3.Keys), D.sl true 4 (List.map (TValue.e false) s3.Vals), D.int .i64 s3.Default.Kind, D.int .i64 s3.Default.Num, D.str s3.Default.Text, D.int .i64 s3.Default.Ref], .box [D.int .i64 s4.Next, D.sl true 10 (List.map (TObject.e true) s4.Objects)], Z, Z, Z, Z, Z, Z, Z, Z, Z, Z, Z, Z, Z, Z, Z, Z, Z, Z, Z, Z, Z, Z, Z, Z, Z, Z, Z, Z, Z, Z, Z, Z, Z, Z, Z, Z, Z, Z, Z], [[D.int .i64 g0, D.sl false 10 (List.map (TObject.e false) g0_1)]]⟩
noncomputable abbrev q_s_l07Add_j1 (s3 : TObject) (s4 : THeap) (g0 : Int) (g0_1 : List TObject) (k : List Fr) (t : (THeap × Int × Int)) (x : Option Res) : Prop := x = some (D.tup [D.agg [D.int .i64 t.1.Next, D.sl true 10 (List.map (TObject.e true) t.1.Objects)], D.int .i64 t.2.1, D.int .i64 t.2.2], [], [[D.int .i64 g0, D.sl false 10 (List.map (TObject.e false) g0_1)]])
theorem p_s_l07Add_j1 (s3 : TObject) (s4 : THeap) (g0 : Int) (g0_1 : List TObject) (k : List Fr) : Le (q_s_l07Add_j1 s3 s4 g0 g0_1 k) (s_l07Add_j1 s3 s4 g0 g0_1) (x_s_l07Add_j1 s3 s4 g0 g0_1 k) := by
  unfold s_l07Add_j1 x_s_l07Add_j1 v168_j1
  try conv => arg 3; simp (maxSteps := 999999) only [sx, ty, ↓reduceIte, reduceCtorEq, Nat.reduceAdd, Nat.reduceSub, Nat.reduceLeDiff, Nat.reduceEqDiff, Nat.reduceLT, Nat.reduceMul, Nat.reduceBNe, List.reduceReplicate, Int.reduceLE, Int.reduceLT, Int.reduceEq, Int.reduceToNat, Int.reduceNeg, *]
  refine Le.call (g_s_l07Own g0 g0_1) fun r23 h _ hy => ?_
  subst hy
  try conv => arg 3; simp (maxSteps := 999999) only [sx, ty, ↓reduceIte, reduceCtorEq, Nat.reduceAdd, Nat.reduceSub, Nat.reduceLeDiff, Nat.reduceEqDiff, Nat.reduceLT, Nat.reduceMul, Nat.reduceBNe, List.reduceReplicate, Int.reduceLE, Int.reduceLT, Int.reduceEq, Int.reduceToNat, Int.reduceNeg, *]
  refine Le.call (g_s_l07OwnObject s3) fun r31 h_1 _ hy => ?_
  obtain ⟨_, rfl⟩ := hy
  try conv => arg 3; simp (maxSteps := 999999) only [sx, ty, ↓reduceIte, reduceCtorEq, Nat.reduceAdd, Nat.reduceSub, Nat.reduceLeDiff, Nat.reduceEqDiff, Nat.reduceLT, Nat.reduceMul, Nat.reduceBNe, List.reduceReplicate, Int.reduceLE, Int.reduceLT, Int.reduceEq, Int.reduceToNat, Int.reduceNeg, *]
  refine Le.app fun c39 h_2 h_3 => ?_
  replace h_2 : List.map (TObject.e true) r23.Objects ++ [D.agg [D.int .i64 (IntKind.wrap .i64 (g0 + 1)), D.int .i64 r31.Kind, D.str r31.Name, D.int .i64 r31.Low, D.sl true 4 (List.map (TValue.e false) r31.Keys), D.sl true 4 (List.map (TValue.e false) r31.Vals), D.int .i64 r31.Default.Kind, D.int .i64 r31.Default.Num, D.str r31.Default.Text, D.int .i64 r31.Default.Ref]] = List.map (TObject.e true) c39 := by rw [h_2, List.map_append] <;> rfl
  replace h_3 : r23.Objects.length + 1 ≤ most := h_3
  try conv => arg 3; simp (maxSteps := 999999) only [sx, ty, ↓reduceIte, reduceCtorEq, Nat.reduceAdd, Nat.reduceSub, Nat.reduceLeDiff, Nat.reduceEqDiff, Nat.reduceLT, Nat.reduceMul, Nat.reduceBNe, List.reduceReplicate, Int.reduceLE, Int.reduceLT, Int.reduceEq, Int.reduceToNat, Int.reduceNeg, *]
  ((with_reducible refine Le.ret ?_); first | exact rfl | exact Pu.mk)
theorem g_s_l07Add (p1 : TObject) (g0 : Int) (g0_1 : List TObject) : Le (fun r x => x = some (D.tup [D.agg [D.int .i64 r.1.Next, D.sl true 10 (List.map (TObject.e true) r.1.Objects)], D.int .i64 r.2.1, D.int .i64 r.2.2], [], [[D.int .i64 g0, D.sl false 10 (List.map (TObject.e false) g0_1)]])) (s_l07Add p1 g0 g0_1) (vcall T 168 [D.ref 0 0, D.agg [D.int .i64 p1.Id, D.int .i64 p1.Kind, D.str p1.Name, D.int .i64 p1.Low, D.sl true 4 (List.map (TValue.e false) p1.Keys), D.sl true 4 (List.map (TValue.e false) p1.Vals), D.int .i64 p1.Default.Kind, D.int .i64 p1.Default.Num, D.str p1.Default.Text, D.int .i64 p1.Default.Ref]] [[D.int .i64 g0, D.sl false 10 (List.map (TObject.e false) g0_1)]]) := by
  unfold s_l07Add
  refine Le.enter (g := v168) rfl rfl rfl rfl ?_
  repeat' (try conv => arg 3; simp (maxSteps := 999999) only [sx, ty, ↓reduceIte, reduceCtorEq, Nat.reduceAdd, Nat.reduceSub, Nat.reduceLeDiff, Nat.reduceEqDiff, Nat.reduceLT, Nat.reduceMul, Nat.reduceBNe, List.reduceReplicate, Int.reduceLE, Int.reduceLT, Int.reduceEq, Int.reduceToNat, Int.reduceNeg, *, v168, v168_b]); first
    | exact p_s_l07Add_j1 _ _ _ _ _
    | ((with_reducible refine Le.ret ?_); first | exact rfl | exact Pu.mk)
    | with_reducible refine Le.itq (fun _ => ?_) (fun _ => ?_)
theorem g_s_l09Created (p1 : TObject) (g0 : Int) (g0_1 : List TObject) : Le (fun r x => x = some (D.tup [D.agg [D.int .i64 r.1.Next, D.sl true 10 (List.map (TObject.e true) r.1.Objects)], D.agg [D.int .i64 r.2.1.Kind, D.int .i64 r.2.1.Num, D.str r.2.1.Text, D.int .i64 r.2.1.Ref], D.int .i64 r.2.2], [], [[D.int .i64 g0, D.sl false 10 (List.map (TObject.e false) g0_1)]])) (s_l09Created p1 g0 g0_1) (vcall T 95 [D.ref 0 0, D.agg [D.int .i64 p1.Id, D.int .i64 p1.Kind, D.str p1.Name, D.int .i64 p1.Low, D.sl true 4 (List.map (TValue.e false) p1.Keys), D.sl true 4 (List.map (TValue.e false) p1.Vals), D.int .i64 p1.Default.Kind, D.int .i64 p1.Default.Num, D.str p1.Default.Text, D.int .i64 p1.Default.Ref]] [[D.int .i64 g0, D.sl false 10 (List.map (TObject.e false) g0_1)]]) := by
  unfold s_l09Created
  refine Le.enter (g := v95) rfl rfl rfl rfl ?_
  repeat' (try conv => arg 3; simp (maxSteps := 999999) only [sx, ty, ↓reduceIte, reduceCtorEq, Nat.reduceAdd, Nat.reduceSub, Nat.reduceLeDiff, Nat.reduceEqDiff, Nat.reduceLT, Nat.reduceMul, Nat.reduceBNe, List.reduceReplicate, Int.reduceLE, Int.reduceLT, Int.reduceEq, Int.reduceToNat, Int.reduceNeg, *, v95, v95_b]); first
    | (refine Le.call (g_s_l07Add _ _ _) fun _ _ _ hy => ?_; subst hy)
    | ((with_reducible refine Le.ret ?_); first | exact rfl | exact Pu.mk)
    | with_reducible refine Le.itq (fun _ => ?_) (fun _ => ?_)
noncomputable abbrev x_s_NewRecord_l1 (s1 : ByteArray) (s2 : List ByteArray) (s3 : List TValue) (s8 : THeap) (s9 : TValue) (s11 : Nat) (g0 : Int) (g0_1 : List TObject) (s13 : TObject) (k : List Fr) : Option Res := go T (enF [.cell 8 (.many 2), .cell 9 (.many 4), .tmp 10] []) v37_m1 (.lp v37_l1 :: .bl 0 :: .sq (.clr [0,10,11,12,14,15,16,17,18,19,20,21,22,23,24,25,26,27,28,29,30,31,32,33,34,35,36,37,38,39,40,41,42,43,44,45,46,47,48,49,50,51,52,53,54,55,56]) :: k) ⟨[Z, .d (D.str s1), .d (D.sl false 1 (List.map D.str s2)), .d (D.sl false 4 (List.map (TValue.e false) s3)), .d (D.ref 0 0), Z, Z, Z, .box [D.int .i64 s8.Next, D.sl true 10 (List.map (TObject.e true) s8.Objects)], .box [D.int .i64 s9.Kind, D.int .i64 s9.Num, D.str s9.Text, D.int .i64 s9.Ref], Z, .d (D.gho s11), Z, .box [D.int .i64 s13.Id, D.int .i64 s13.Kind, D.str s13.Name, D.int .i64 s13.Low, D.sl true 4 (List.map (TValue.e false) s13.Keys), D.sl true 4 (List.map (TValue.e false) s13.Vals), D.int .i64 s13.Default.Kind, D.int .i64 s13.Default.Num, D.str s13.Default.Text, D.int .i64 s13.Default.Ref], Z, Z, Z, Z, Z, Z, Z, Z, Z, Z, Z, Z, Z, Z, Z, Z, Z, Z, Z, Z, Z, Z, Z, Z, Z, Z, Z, Z, Z, Z, Z, Z, Z, Z, Z, Z, Z, Z, Z, Z, Z, Z, Z, Z, Z, Z, Z, Z], [[D.int .i64 g0, D.sl false 10 (List.map (TObject.e false) g0_1)]]⟩
noncomputable abbrev q_s_NewRecord_l1 (s1 : ByteArray) (s2 : List ByteArray) (s3 : List TValue) (s8 : THeap) (s9 : TValue) (s11 : Nat) (g0 : Int) (g0_1 : List TObject) (k : List Fr) (t : TObject) (x : Option Res) : Prop := x = bk T (enF [.cell 8 (.many 2), .cell 9 (.many 4), .tmp 10] []) k ⟨[Z, .d (D.str s1), .d (D.sl false 1 (List.map D.str s2)), .d (D.sl false 4 (List.map (TValue.e false) s3)), .d (D.ref 0 0), Z, Z, Z, .box [D.int .i64 s8.Next, D.sl true 10 (List.map (TObject.e true) s8.Objects)], .box [D.int .i64 s9.Kind, D.int .i64 s9.Num, D.str s9.Text, D.int .i64 s9.Ref], Z, Z, Z, .box [D.int .i64 t.Id, D.int .i64 t.Kind, D.str t.Name, D.int .i64 t.Low, D.sl true 4 (List.map (TValue.e false) t.Keys), D.sl true 4 (List.map (TValue.e false) t.Vals), D.int .i64 t.Default.Kind, D.int .i64 t.Default.Num, D.str t.Default.Text, D.int .i64 t.Default.Ref], Z, Z, Z, Z, Z, Z, Z, Z, Z, Z, Z, Z, Z, Z, Z, Z, Z, Z, Z, Z, Z, Z, Z, Z, Z, Z, Z, Z, Z, Z, Z, Z, Z, Z, Z, Z, Z, Z, Z, Z, Z, Z, Z, Z, Z, Z, Z, Z], [[D.int .i64 g0, D.sl false 10 (List.map (TObject.e false) g0_1)]]⟩
theorem p_s_NewRecord_l1 (s1 : ByteArray) (s2 : List ByteArray) (s3 : List TValue) (s8 : THeap) (s9 : TValue) (s11 : Nat) (g0 : Int) (g0_1 : List TObject) : ∀ (s13 : TObject) (k : List Fr), Le (q_s_NewRecord_l1 s1 s2 s3 s8 s9 s11 g0 g0_1 k) (s_NewRecord_l1 s1 s2 s3 s8 s9 s11 g0 g0_1 s13) (x_s_NewRecord_l1 s1 s2 s3 s8 s9 s11 g0 g0_1 s13 k) := by
  intro s13 k
  refine Le.cp (X := x_s_NewRecord_l1 s1 s2 s3 s8 s9 s11 g0 g0_1 s13) (Q := q_s_NewRecord_l1 s1 s2 s3 s8 s9 s11 g0 g0_1) ?_ k
  refine s_NewRecord_l1.partial_correctness s1 s2 s3 s8 s9 s11 g0 g0_1 (motive := fun s13 r => ∀ k : List Fr, q_s_NewRecord_l1 s1 s2 s3 s8 s9 s11 g0 g0_1 k r (x_s_NewRecord_l1 s1 s2 s3 s8 s9 s11 g0 g0_1 s13 k)) ?_ s13
  intro rec hrec s13
  refine Le.pc ?_
  intro k
  unfold x_s_NewRecord_l1 v37_m1
  try conv => arg 3; simp (maxSteps := 999999) only [sx, ty, ↓reduceIte, reduceCtorEq, Nat.reduceAdd, Nat.reduceSub, Nat.reduceLeDiff, Nat.reduceEqDiff, Nat.reduceLT, Nat.reduceMul, Nat.reduceBNe, List.reduceReplicate, Int.reduceLE, Int.reduceLT, Int.reduceEq, Int.reduceToNat, Int.reduceNeg, *, w37_1]
  refine Le.itq (fun h => ?_) (fun h => ?_)
  · try conv => arg 3; simp (maxSteps := 999999) only [sx, ty, ↓reduceIte, reduceCtorEq, Nat.reduceAdd, Nat.reduceSub, Nat.reduceLeDiff, Nat.reduceEqDiff, Nat.reduceLT, Nat.reduceMul, Nat.reduceBNe, List.reduceReplicate, Int.reduceLE, Int.reduceLT, Int.reduceEq, Int.reduceToNat, Int.reduceNeg, *, w37_1]
    refine Le.app fun c55 h_1 h_2 => ?_
    replace h_1 : List.map (TValue.e false) s13.Vals ++ [D.agg [D.int .i64 1, D.int .i64 0, D.str .empty, D.int .i64 0]] = List.map (TValue.e false) c55 := by rw [h_1, List.map_append] <;> rfl
    replace h_2 : s13.Vals.length + 1 ≤ most := h_2
    try conv => arg 3; simp (maxSteps := 999999) only [sx, ty, ↓reduceIte, reduceCtorEq, Nat.reduceAdd, Nat.reduceSub, Nat.reduceLeDiff, Nat.reduceEqDiff, Nat.reduceLT, Nat.reduceMul, Nat.reduceBNe, List.reduceReplicate, Int.reduceLE, Int.reduceLT, Int.reduceEq, Int.reduceToNat, Int.reduceNeg, *, w37_1]
    exact fun r hr => hrec _ r hr k
  · try conv => arg 3; simp (maxSteps := 999999) only [sx, ty, ↓reduceIte, reduceCtorEq, Nat.reduceAdd, Nat.reduceSub, Nat.reduceLeDiff, Nat.reduceEqDiff, Nat.reduceLT, Nat.reduceMul, Nat.reduceBNe, List.reduceReplicate, Int.reduceLE, Int.reduceLT, Int.reduceEq, Int.reduceToNat, Int.reduceNeg, *, w37_1]
    ((with_reducible refine Le.ret ?_); first | exact rfl | exact Pu.mk)
noncomputable abbrev x_s_NewRecord_j2 (s1 : ByteArray) (s2 : List ByteArray) (s3 : List TValue) (s8 : THeap) (s9 : TValue) (s11 : List TValue) (g0 : Int) (g0_1 : List TObject) (k : List Fr) : Option Res := go T (enF [.cell 8 (.many 2), .cell 9 (.many 4), .tmp 10] []) v37_j2 k ⟨[Z, .d (D.str s1), .d (D.sl false 1 (List.map D.str s2)), .d (D.sl false 4 (List.map (TValue.e false) s3)), .d (D.ref 0 0), Z, Z, Z, .box [D.int .i64 s8.Next, D.sl true 10 (List.map (TObject.e true) s8.Objects)], .box [D.int .i64 s9.Kind, D.int .i64 s9.Num, D.str s9.Text, D.int .i64 s9.Ref], Z, .d (D.sl true 4 (List.map (TValue.e false) s11)), Z, Z, Z, Z, Z, Z, Z, Z, Z, Z, Z, Z, Z, Z, Z, Z, Z, Z, Z, Z, Z, Z, Z, Z, Z, Z, Z, Z, Z, Z, Z, Z, Z, Z, Z, Z, Z, Z, Z, Z, Z, Z, Z, Z, Z, Z, Z, Z, Z, Z], [[D.int .i64 g0, D.sl false 10 (List.map (TObject.e false) g0_1)]]⟩
noncomputable abbrev q_s_NewRecord_j2 (s1 : ByteArray) (s2 : List ByteArray) (s3 : List TValue) (s8 : THeap) (s9 : TValue) (s11 : List TValue) (g0 : Int) (g0_1 : List TObject) (k : List Fr) (t : (THeap × TValue × Int)) (x : Option Res) : Prop := Pu (D.tup [D.agg [D.int .i64 t.1.Next, D.sl true 10 (List.map (TObject.e true) t.1.Objects)], D.agg [D.int .i64 t.2.1.Kind, D.int .i64 t.2.1.Num, D.str t.2.1.Text, D.int .i64 t.2.1.Ref], D.int .i64 t.2.2]) [] x
theorem p_s_NewRecord_j2 (s1 : ByteArray) (s2 : List ByteArray) (s3 : List TValue) (s8 : THeap) (s9 : TValue) (s11 : List TValue) (g0 : Int) (g0_1 : List TObject) (k : List Fr) : Le (q_s_NewRecord_j2 s1 s2 s3 s8 s9 s11 g0 g0_1 k) (s_NewRecord_j2 s1 s2 s3 s8 s9 s11 g0 g0_1) (x_s_NewRecord_j2 s1 s2 s3 s8 s9 s11 g0 g0_1 k) := by
  unfold s_NewRecord_j2 x_s_NewRecord_j2 v37_j2
  repeat' (try conv => arg 3; simp (maxSteps := 999999) only [sx, ty, ↓reduceIte, reduceCtorEq, Nat.reduceAdd, Nat.reduceSub, Nat.reduceLeDiff, Nat.reduceEqDiff, Nat.reduceLT, Nat.reduceMul, Nat.reduceBNe, List.reduceReplicate, Int.reduceLE, Int.reduceLT, Int.reduceEq, Int.reduceToNat, Int.reduceNeg, *, w37_1]); first
    | (refine Le.call (g_s_l07OwnValues _) fun _ _ _ hy => ?_; obtain ⟨_, rfl⟩ := hy)
    | (refine Le.via (p_s_NewRecord_l1 _ _ _ _ _ _ _ _ _ _) fun _ _ _ hy => ?_; try dsimp only [q_s_NewRecord_l1] at hy; first | subst hy | obtain ⟨_, rfl⟩ := hy)
    | (refine Le.call (g_s_l09Created _ _ _) fun _ _ _ hy => ?_; subst hy)
    | ((with_reducible refine Le.ret ?_); first | exact rfl | exact Pu.mk)
    | with_reducible refine Le.itq (fun _ => ?_) (fun _ => ?_)
noncomputable abbrev x_s_NewRecord_j1 (s1 : ByteArray) (s2 : List ByteArray) (s3 : List TValue) (s8 : THeap) (s9 : TValue) (g0 : Int) (g0_1 : List TObject) (k : List Fr) : Option Res := go T (enF [.cell 8 (.many 2), .cell 9 (.many 4), .tmp 10] []) v37_j1 k ⟨[Z, .d (D.str s1), .d (D.sl false 1 (List.map D.str s2)), .d (D.sl false 4 (List.map (TValue.e false) s3)), Z, Z, Z, Z, .box [D.int .i64 s8.Next, D.sl true 10 (List.map (TObject.e true) s8.Objects)], .box [D.int .i64 s9.Kind, D.int .i64 s9.Num, D.str s9.Text, D.int .i64 s9.Ref], Z, Z, Z, Z, Z, Z, Z, Z, Z, Z, Z, Z, Z, Z, Z, Z, Z, Z, Z, Z, Z, Z, Z, Z, Z, Z, Z, Z, Z, Z, Z, Z, Z, Z, Z, Z, Z, Z, Z, Z, Z, Z, Z, Z, Z, Z, Z, Z, Z, Z, Z, Z], [[D.int .i64 g0, D.sl false 10 (List.map (TObject.e false) g0_1)]]⟩
noncomputable abbrev q_s_NewRecord_j1 (s1 : ByteArray) (s2 : List ByteArray) (s3 : List TValue) (s8 : THeap) (s9 : TValue) (g0 : Int) (g0_1 : List TObject) (k : List Fr) (t : (THeap × TValue × Int)) (x : Option Res) : Prop := Pu (D.tup [D.agg [D.int .i64 t.1.Next, D.sl true 10 (List.map (TObject.e true) t.1.Objects)], D.agg [D.int .i64 t.2.1.Kind, D.int .i64 t.2.1.Num, D.str t.2.1.Text, D.int .i64 t.2.1.Ref], D.int .i64 t.2.2]) [] x
theorem p_s_NewRecord_j1 (s1 : ByteArray) (s2 : List ByteArray) (s3 : List TValue) (s8 : THeap) (s9 : TValue) (g0 : Int) (g0_1 : List TObject) (k : List Fr) : Le (q_s_NewRecord_j1 s1 s2 s3 s8 s9 g0 g0_1 k) (s_NewRecord_j1 s1 s2 s3 s8 s9 g0 g0_1) (x_s_NewRecord_j1 s1 s2 s3 s8 s9 g0 g0_1 k) := by
  unfold s_NewRecord_j1 x_s_NewRecord_j1 v37_j1
  try conv => arg 3; simp (maxSteps := 999999) only [sx, ty, ↓reduceIte, reduceCtorEq, Nat.reduceAdd, Nat.reduceSub, Nat.reduceLeDiff, Nat.reduceEqDiff, Nat.reduceLT, Nat.reduceMul, Nat.reduceBNe, List.reduceReplicate, Int.reduceLE, Int.reduceLT, Int.reduceEq, Int.reduceToNat, Int.reduceNeg, *, w37_1]
  ((with_reducible refine Le.ret ?_); first | exact rfl | exact Pu.mk)
theorem g_s_NewRecord (p0 : THeap) (p1 : ByteArray) (p2 : List ByteArray) (p3 : List TValue) : Le (fun r x => Pu (D.tup [D.agg [D.int .i64 r.1.Next, D.sl true 10 (List.map (TObject.e true) r.1.Objects)], D.agg [D.int .i64 r.2.1.Kind, D.int .i64 r.2.1.Num, D.str r.2.1.Text, D.int .i64 r.2.1.Ref], D.int .i64 r.2.2]) [] x) (s_NewRecord p0 p1 p2 p3) (vcall T 37 [D.agg [D.int .i64 p0.Next, D.sl false 10 (List.map (TObject.e false) p0.Objects)], D.str p1, D.sl false 1 (List.map D.str p2), D.sl false 4 (List.map (TValue.e false) p3)] []) := by
  unfold s_NewRecord
  refine Le.enter (g := v37) rfl rfl rfl rfl ?_
  repeat' (try conv => arg 3; simp (maxSteps := 999999) only [sx, ty, ↓reduceIte, reduceCtorEq, Nat.reduceAdd, Nat.reduceSub, Nat.reduceLeDiff, Nat.reduceEqDiff, Nat.reduceLT, Nat.reduceMul, Nat.reduceBNe, List.reduceReplicate, Int.reduceLE, Int.reduceLT, Int.reduceEq, Int.reduceToNat, Int.reduceNeg, *, w37_1, v37, v37_b]); first
    | (refine Le.call (g_s_l09Fields _) fun _ _ _ hy => ?_; obtain ⟨_, rfl⟩ := hy)
    | (refine Le.call (g_s_l09Fit _ _ _) fun _ _ _ hy => ?_; subst hy)
    | (refine Le.call (g_s_IsName _) fun _ _ _ hy => ?_; obtain ⟨_, rfl⟩ := hy)
    | exact p_s_NewRecord_j2 _ _ _ _ _ _ _ _ _
    | exact p_s_NewRecord_j1 _ _ _ _ _ _ _ _
    | with_reducible refine Le.bool (fun _ => ?_) (fun _ => ?_)
    | ((with_reducible refine Le.ret ?_); first | exact rfl | exact Pu.mk)
theorem g_i_isLetter (p0 : Int) : Le (fun r x => Pu (D.bool r) [] x) (i_isLetter p0) (vcall T 156 [D.int .u8 p0] []) := by
  unfold i_isLetter
  refine Le.enter (g := v156) rfl rfl rfl rfl ?_
  repeat' (try conv => arg 3; simp (maxSteps := 999999) only [sx, ty, ↓reduceIte, reduceCtorEq, Nat.reduceAdd, Nat.reduceSub, Nat.reduceLeDiff, Nat.reduceEqDiff, Nat.reduceLT, Nat.reduceMul, Nat.reduceBNe, List.reduceReplicate, Int.reduceLE, Int.reduceLT, Int.reduceEq, Int.reduceToNat, Int.reduceNeg, *, v156, v156_b]); first
    | ((with_reducible refine Le.ret ?_); first | exact rfl | exact Pu.mk)
    | with_reducible refine Le.itq (fun _ => ?_) (fun _ => ?_)
theorem g_i_isDigit (p0 : Int) : Le (fun r x => Pu (D.bool r) [] x) (i_isDigit p0) (vcall T 208 [D.int .u8 p0] []) := by
  unfold i_isDigit
  refine Le.enter (g := v208) rfl rfl rfl rfl ?_
  repeat' (try conv => arg 3; simp (maxSteps := 999999) only [sx, ty, ↓reduceIte, reduceCtorEq, Nat.reduceAdd, Nat.reduceSub, Nat.reduceLeDiff, Nat.reduceEqDiff, Nat.reduceLT, Nat.reduceMul, Nat.reduceBNe, List.reduceReplicate, Int.reduceLE, Int.reduceLT, Int.reduceEq, Int.reduceToNat, Int.reduceNeg, *, v208, v208_b]); first
    | ((with_reducible refine Le.ret ?_); first | exact rfl | exact Pu.mk)
    | with_reducible refine Le.itq (fun _ => ?_) (fun _ => ?_)
theorem g_i_isNameByte (p0 : Int) : Le (fun r x => Pu (D.bool r) [] x) (i_isNameByte p0) (vcall T 158 [D.int .u8 p0] []) := by
  unfold i_isNameByte
  refine Le.enter (g := v158) rfl rfl rfl rfl ?_
  repeat' (try conv => arg 3; simp (maxSteps := 999999) only [sx, ty, ↓reduceIte, reduceCtorEq, Nat.reduceAdd, Nat.reduceSub, Nat.reduceLeDiff, Nat.reduceEqDiff, Nat.reduceLT, Nat.reduceMul, Nat.reduceBNe, List.reduceReplicate, Int.reduceLE, Int.reduceLT, Int.reduceEq, Int.reduceToNat, Int.reduceNeg, *, v158, v158_b]); first
    | (refine Le.call (g_i_isLetter _) fun _ _ _ hy => ?_; obtain ⟨_, rfl⟩ := hy)
    | (refine Le.call (g_i_isDigit _) fun _ _ _ hy => ?_; obtain ⟨_, rfl⟩ := hy)
    | with_reducible refine Le.bool (fun _ => ?_) (fun _ => ?_)
    | ((with_reducible refine Le.ret ?_); first | exact rfl | exact Pu.mk)
noncomputable abbrev x_i_areAll_byte_l1 (s0 : List Int) (s7 : List Int) (s8 : Int) (s9 : Int) (k : List Fr) : Option Res := go T (enF [.tmp 4] []) v157_m1 (.lp v157_l1 :: .bl 0 :: .sq (.clr [4,6,7,8,9,10,11,12,13,14,15,16,17]) :: k) ⟨[.d (D.sl false 1 (List.map (D.int .u8) s0)), .d (D.fn 158 []), Z, Z, Z, Z, Z, .d (D.sl false 1 (List.map (D.int .u8) s7)), .d (D.int .i64 s8), .d (D.int .i64 s9), Z, Z, Z, Z, Z, Z, Z, Z], []⟩
noncomputable abbrev q_i_areAll_byte_l1 (s0 : List Int) (s7 : List Int) (s8 : Int) (k : List Fr) (t : (Unit ⊕ Bool)) (x : Option Res) : Prop := match t with | .inl t => x = bk T (enF [.tmp 4] []) k ⟨[.d (D.sl false 1 (List.map (D.int .u8) s0)), .d (D.fn 158 []), Z, Z, Z, Z, Z, Z, Z, Z, Z, Z, Z, Z, Z, Z, Z, Z], []⟩ | .inr t => Pu (D.bool t) [] x
theorem p_i_areAll_byte_l1 (s0 : List Int) (s7 : List Int) (s8 : Int) : ∀ (s9 : Int) (k : List Fr), Le (q_i_areAll_byte_l1 s0 s7 s8 k) (i_areAll_byte_l1 s0 s7 s8 s9) (x_i_areAll_byte_l1 s0 s7 s8 s9 k) := by
  intro s9 k
  refine Le.cp (X := x_i_areAll_byte_l1 s0 s7 s8 s9) (Q := q_i_areAll_byte_l1 s0 s7 s8) ?_ k
  refine i_areAll_byte_l1.partial_correctness s0 s7 s8 (motive := fun s9 r => ∀ k : List Fr, q_i_areAll_byte_l1 s0 s7 s8 k r (x_i_areAll_byte_l1 s0 s7 s8 s9 k)) ?_ s9
  intro rec hrec s9
  refine Le.pc ?_
  intro k
  unfold x_i_areAll_byte_l1 v157_m1
  repeat' (try conv => arg 3; simp (maxSteps := 999999) only [sx, ty, ↓reduceIte, reduceCtorEq, Nat.reduceAdd, Nat.reduceSub, Nat.reduceLeDiff, Nat.reduceEqDiff, Nat.reduceLT, Nat.reduceMul, Nat.reduceBNe, List.reduceReplicate, Int.reduceLE, Int.reduceLT, Int.reduceEq, Int.reduceToNat, Int.reduceNeg, *, w157_1]); first
    | (refine Le.call (g_i_isNameByte _) fun _ _ _ hy => ?_; obtain ⟨_, rfl⟩ := hy)
    | with_reducible refine Le.idx fun _ _ _ _ => ?_
    | with_reducible refine Le.bool (fun _ => ?_) (fun _ => ?_)
    | ((with_reducible refine Le.ret ?_); first | exact rfl | exact Pu.mk)
    | with_reducible refine Le.itq (fun _ => ?_) (fun _ => ?_)
    | exact fun r hr => hrec _ r hr k
theorem g_i_areAll_byte (p0 : List Int) : Le (fun r x => Pu (D.bool r) [] x) (i_areAll_byte p0) (vcall T 157 [D.sl false 1 (List.map (D.int .u8) p0), D.fn 158 []] []) := by
  unfold i_areAll_byte
  refine Le.enter (g := v157) rfl rfl rfl rfl ?_
  repeat' (try conv => arg 3; simp (maxSteps := 999999) only [sx, ty, ↓reduceIte, reduceCtorEq, Nat.reduceAdd, Nat.reduceSub, Nat.reduceLeDiff, Nat.reduceEqDiff, Nat.reduceLT, Nat.reduceMul, Nat.reduceBNe, List.reduceReplicate, Int.reduceLE, Int.reduceLT, Int.reduceEq, Int.reduceToNat, Int.reduceNeg, *, w157_1, v157, v157_b]); first
    | (refine Le.via (p_i_areAll_byte_l1 _ _ _ _ _) fun t _ _ hy => ?_; rcases t with t | t <;> (try dsimp only [q_i_areAll_byte_l1] at hy; first | subst hy | obtain ⟨_, rfl⟩ := hy))
    | ((with_reducible refine Le.ret ?_); first | exact rfl | exact Pu.mk)
theorem g_i_IsName (p0 : ByteArray) : Le (fun r x => Pu (D.bool r) [] x) (i_IsName p0) (vcall T 74 [D.str p0] []) := by
  unfold i_IsName
  refine Le.enter (g := v74) rfl rfl rfl rfl ?_
  repeat' (try conv => arg 3; simp (maxSteps := 999999) only [sx, ty, ↓reduceIte, reduceCtorEq, Nat.reduceAdd, Nat.reduceSub, Nat.reduceLeDiff, Nat.reduceEqDiff, Nat.reduceLT, Nat.reduceMul, Nat.reduceBNe, List.reduceReplicate, Int.reduceLE, Int.reduceLT, Int.reduceEq, Int.reduceToNat, Int.reduceNeg, *, v74, v74_b]); first
    | (refine Le.call (g_i_isLetter _) fun _ _ _ hy => ?_; obtain ⟨_, rfl⟩ := hy)
    | (refine Le.call (g_i_areAll_byte _) fun _ _ _ hy => ?_; obtain ⟨_, rfl⟩ := hy)
    | with_reducible refine Le.idxBN fun _ _ _ => ?_
    | with_reducible refine Le.bool (fun _ => ?_) (fun _ => ?_)
    | ((with_reducible refine Le.ret ?_); first | exact rfl | exact Pu.mk)
    | with_reducible refine Le.itq (fun _ => ?_) (fun _ => ?_)
noncomputable abbrev x_i_areAll_string_l1 (s0 : List ByteArray) (s7 : List ByteArray) (s8 : Int) (s9 : Int) (k : List Fr) : Option Res := go T (enF [.tmp 4] []) v73_m1 (.lp v73_l1 :: .bl 0 :: .sq (.clr [4,6,7,8,9,10,11,12,13,14,15,16,17]) :: k) ⟨[.d (D.sl false 1 (List.map D.str s0)), .d (D.fn 74 []), Z, Z, Z, Z, Z, .d (D.sl false 1 (List.map D.str s7)), .d (D.int .i64 s8), .d (D.int .i64 s9), Z, Z, Z, Z, Z, Z, Z, Z], []⟩
noncomputable abbrev q_i_areAll_string_l1 (s0 : List ByteArray) (s7 : List ByteArray) (s8 : Int) (k : List Fr) (t : (Unit ⊕ Bool)) (x : Option Res) : Prop := match t with | .inl t => x = bk T (enF [.tmp 4] []) k ⟨[.d (D.sl false 1 (List.map D.str s0)), .d (D.fn 74 []), Z, Z, Z, Z, Z, Z, Z, Z, Z, Z, Z, Z, Z, Z, Z, Z], []⟩ | .inr t => Pu (D.bool t) [] x
theorem p_i_areAll_string_l1 (s0 : List ByteArray) (s7 : List ByteArray) (s8 : Int) : ∀ (s9 : Int) (k : List Fr), Le (q_i_areAll_string_l1 s0 s7 s8 k) (i_areAll_string_l1 s0 s7 s8 s9) (x_i_areAll_string_l1 s0 s7 s8 s9 k) := by
  intro s9 k
  refine Le.cp (X := x_i_areAll_string_l1 s0 s7 s8 s9) (Q := q_i_areAll_string_l1 s0 s7 s8) ?_ k
  refine i_areAll_string_l1.partial_correctness s0 s7 s8 (motive := fun s9 r => ∀ k : List Fr, q_i_areAll_string_l1 s0 s7 s8 k r (x_i_areAll_string_l1 s0 s7 s8 s9 k)) ?_ s9
  intro rec hrec s9
  refine Le.pc ?_
  intro k
  unfold x_i_areAll_string_l1 v73_m1
  repeat' (try conv => arg 3; simp (maxSteps := 999999) only [sx, ty, ↓reduceIte, reduceCtorEq, Nat.reduceAdd, Nat.reduceSub, Nat.reduceLeDiff, Nat.reduceEqDiff, Nat.reduceLT, Nat.reduceMul, Nat.reduceBNe, List.reduceReplicate, Int.reduceLE, Int.reduceLT, Int.reduceEq, Int.reduceToNat, Int.reduceNeg, *, w73_1]); first
    | (refine Le.call (g_i_IsName _) fun _ _ _ hy => ?_; obtain ⟨_, rfl⟩ := hy)
    | with_reducible refine Le.idx fun _ _ _ _ => ?_
    | with_reducible refine Le.bool (fun _ => ?_) (fun _ => ?_)
    | ((with_reducible refine Le.ret ?_); first | exact rfl | exact Pu.mk)
    | with_reducible refine Le.itq (fun _ => ?_) (fun _ => ?_)
    | exact fun r hr => hrec _ r hr k
theorem g_i_areAll_string (p0 : List ByteArray) : Le (fun r x => Pu (D.bool r) [] x) (i_areAll_string p0) (vcall T 73 [D.sl false 1 (List.map D.str p0), D.fn 74 []] []) := by
  unfold i_areAll_string
  refine Le.enter (g := v73) rfl rfl rfl rfl ?_
  repeat' (try conv => arg 3; simp (maxSteps := 999999) only [sx, ty, ↓reduceIte, reduceCtorEq, Nat.reduceAdd, Nat.reduceSub, Nat.reduceLeDiff, Nat.reduceEqDiff, Nat.reduceLT, Nat.reduceMul, Nat.reduceBNe, List.reduceReplicate, Int.reduceLE, Int.reduceLT, Int.reduceEq, Int.reduceToNat, Int.reduceNeg, *, w73_1, v73, v73_b]); first
    | (refine Le.via (p_i_areAll_string_l1 _ _ _ _ _) fun t _ _ hy => ?_; rcases t with t | t <;> (try dsimp only [q_i_areAll_string_l1] at hy; first | subst hy | obtain ⟨_, rfl⟩ := hy))
    | ((with_reducible refine Le.ret ?_); first | exact rfl | exact Pu.mk)
theorem c_slices_Clone_string_string (xs : List ByteArray) (h : xs.length ≤ 2147483648) : vcall T 161 [.sl false 1 (xs.map D.str)] [] = some (.sl true 1 (xs.map D.str), [], []) := by
  cases xs with
  | nil =>
    rw [vcall_go T (g := v161) rfl rfl rfl _ _ rfl]
    simp (maxSteps := 9999999) (disch := omega) only [vx, px, ty, ↓reduceIte, Bool.false_eq_true, reduceCtorEq, Nat.reduceAdd, Nat.reduceSub, Nat.reduceLeDiff, Nat.reduceEqDiff, Nat.reduceLT, Nat.reduceMul, List.reduceReplicate, and_true, true_and, and_false, false_and, and_self, or_true, true_or, or_false, false_or, not_true_eq_false, not_false_eq_true, ne_eq, vxd, Nat.reduceBNe, most, ifT, ifF, v161, v161_b]
  | cons x xs =>
    rw [List.length_cons] at h
    rw [vcall_go T (g := v161) rfl rfl rfl _ _ rfl]
    simp (maxSteps := 9999999) (disch := omega) only [vx, px, ty, ↓reduceIte, Bool.false_eq_true, reduceCtorEq, Nat.reduceAdd, Nat.reduceSub, Nat.reduceLeDiff, Nat.reduceEqDiff, Nat.reduceLT, Nat.reduceMul, List.reduceReplicate, and_true, true_and, and_false, false_and, and_self, or_true, true_or, or_false, false_or, not_true_eq_false, not_false_eq_true, ne_eq, vxd, Nat.reduceBNe, most, ifT, ifF, v161, v161_b]
theorem g_slices_Clone_string_string (p0 : List ByteArray) : Le (fun r x => Pu (D.sl true 1 (List.map D.str r)) [] x) (slices_Clone_string_string p0) (vcall T 161 [D.sl false 1 (List.map D.str p0)] []) := by
  unfold slices_Clone_string_string
  refine Le.chk fun h => Le.ret ?_
  exact ⟨_, c_slices_Clone_string_string p0 h⟩
theorem g_slices_Sort_string_string (p0 : List ByteArray) : Le (fun r x => Pu (D.tup []) [D.sl true 1 (List.map D.str r)] x) (slices_Sort_string_string p0) (vcall T 219 [D.sl true 1 (List.map D.str p0)] []) := by
  unfold slices_Sort_string_string
  refine Le.chk fun h => Le.ret ?_
  exact ⟨_, by rw [vcall_prim (g := sortD) T rfl, sortD_typed p0 h]; rfl⟩
theorem g_slices_Compact_string_string (p0 : List ByteArray) : Le (fun r x => Pu (D.sl true 1 (List.map D.str r)) [] x) (slices_Compact_string_string p0) (vcall T 220 [D.sl true 1 (List.map D.str p0)] []) := by
  unfold slices_Compact_string_string
  refine Le.chk fun h => Le.ret ?_
  exact ⟨_, by rw [vcall_prim (g := compactD) T rfl, compactD_typed p0 h]; rfl⟩
theorem g_i_sortedNames (p0 : List ByteArray) : Le (fun r x => Pu (D.sl true 1 (List.map D.str r)) [] x) (i_sortedNames p0) (vcall T 170 [D.sl true 1 (List.map D.str p0)] []) := by
  unfold i_sortedNames
  refine Le.enter (g := v170) rfl rfl rfl rfl ?_
  repeat' (try conv => arg 3; simp (maxSteps := 999999) only [sx, ty, ↓reduceIte, reduceCtorEq, Nat.reduceAdd, Nat.reduceSub, Nat.reduceLeDiff, Nat.reduceEqDiff, Nat.reduceLT, Nat.reduceMul, Nat.reduceBNe, List.reduceReplicate, Int.reduceLE, Int.reduceLT, Int.reduceEq, Int.reduceToNat, Int.reduceNeg, *, v170, v170_b]); first
    | (refine Le.call (g_slices_Sort_string_string _) fun _ _ _ hy => ?_; obtain ⟨_, rfl⟩ := hy)
    | (refine Le.call (g_slices_Compact_string_string _) fun _ _ _ hy => ?_; obtain ⟨_, rfl⟩ := hy)
    | ((with_reducible refine Le.ret ?_); first | exact rfl | exact Pu.mk)
noncomputable abbrev x_i_areFields_j1 (s0 : List ByteArray) (k : List Fr) : Option Res := go T (enF [.tmp 2] []) v97_j1 k ⟨[.d (D.sl false 1 (List.map D.str s0)), Z, Z, Z, Z, Z, Z, Z, Z, Z, Z, Z, Z, Z, Z, Z, Z, Z, Z, Z, Z, Z, Z], []⟩
noncomputable abbrev q_i_areFields_j1 (s0 : List ByteArray) (k : List Fr) (t : Bool) (x : Option Res) : Prop := Pu (D.bool t) [] x
theorem p_i_areFields_j1 (s0 : List ByteArray) (k : List Fr) : Le (q_i_areFields_j1 s0 k) (i_areFields_j1 s0) (x_i_areFields_j1 s0 k) := by
  unfold i_areFields_j1 x_i_areFields_j1 v97_j1
  repeat' (try conv => arg 3; simp (maxSteps := 999999) only [sx, ty, ↓reduceIte, reduceCtorEq, Nat.reduceAdd, Nat.reduceSub, Nat.reduceLeDiff, Nat.reduceEqDiff, Nat.reduceLT, Nat.reduceMul, Nat.reduceBNe, List.reduceReplicate, Int.reduceLE, Int.reduceLT, Int.reduceEq, Int.reduceToNat, Int.reduceNeg, *]); first
    | (refine Le.call (g_slices_Clone_string_string _) fun _ _ _ hy => ?_; obtain ⟨_, rfl⟩ := hy)
    | (refine Le.call (g_i_sortedNames _) fun _ _ _ hy => ?_; obtain ⟨_, rfl⟩ := hy)
    | ((with_reducible refine Le.ret ?_); first | exact rfl | exact Pu.mk)
theorem g_i_areFields (p0 : List ByteArray) : Le (fun r x => Pu (D.bool r) [] x) (i_areFields p0) (vcall T 97 [D.sl false 1 (List.map D.str p0)] []) := by
  unfold i_areFields
  refine Le.enter (g := v97) rfl rfl rfl rfl ?_
  repeat' (try conv => arg 3; simp (maxSteps := 999999) only [sx, ty, ↓reduceIte, reduceCtorEq, Nat.reduceAdd, Nat.reduceSub, Nat.reduceLeDiff, Nat.reduceEqDiff, Nat.reduceLT, Nat.reduceMul, Nat.reduceBNe, List.reduceReplicate, Int.reduceLE, Int.reduceLT, Int.reduceEq, Int.reduceToNat, Int.reduceNeg, *, v97, v97_b]); first
    | (refine Le.call (g_i_areAll_string _) fun _ _ _ hy => ?_; obtain ⟨_, rfl⟩ := hy)
    | exact p_i_areFields_j1 _ _
    | ((with_reducible refine Le.ret ?_); first | exact rfl | exact Pu.mk)
    | with_reducible refine Le.bool (fun _ => ?_) (fun _ => ?_)
    | with_reducible refine Le.itq (fun _ => ?_) (fun _ => ?_)
theorem g_i_within (p0 : Int) (p1 : Int) (p2 : Int) : Le (fun r x => Pu (D.bool r) [] x) (i_within p0 p1 p2) (vcall T 178 [D.int .i64 p0, D.int .i64 p1, D.int .i64 p2] []) := by
  unfold i_within
  refine Le.enter (g := v178) rfl rfl rfl rfl ?_
  repeat' (try conv => arg 3; simp (maxSteps := 999999) only [sx, ty, ↓reduceIte, reduceCtorEq, Nat.reduceAdd, Nat.reduceSub, Nat.reduceLeDiff, Nat.reduceEqDiff, Nat.reduceLT, Nat.reduceMul, Nat.reduceBNe, List.reduceReplicate, Int.reduceLE, Int.reduceLT, Int.reduceEq, Int.reduceToNat, Int.reduceNeg, *, v178, v178_b]); first
    | ((with_reducible refine Le.ret ?_); first | exact rfl | exact Pu.mk)
    | with_reducible refine Le.itq (fun _ => ?_) (fun _ => ?_)
theorem g_i_isObjectId (p0 : Int) : Le (fun r x => Pu (D.bool r) [] x) (i_isObjectId p0) (vcall T 179 [D.int .i64 p0] []) := by
  unfold i_isObjectId
  refine Le.enter (g := v179) rfl rfl rfl rfl ?_
  repeat' (try conv => arg 3; simp (maxSteps := 999999) only [sx, ty, ↓reduceIte, reduceCtorEq, Nat.reduceAdd, Nat.reduceSub, Nat.reduceLeDiff, Nat.reduceEqDiff, Nat.reduceLT, Nat.reduceMul, Nat.reduceBNe, List.reduceReplicate, Int.reduceLE, Int.reduceLT, Int.reduceEq, Int.reduceToNat, Int.reduceNeg, *, v179, v179_b]); first
    | (refine Le.call (g_i_within _ _ _) fun _ _ _ hy => ?_; obtain ⟨_, rfl⟩ := hy)
    | ((with_reducible refine Le.ret ?_); first | exact rfl | exact Pu.mk)
noncomputable abbrev x_i_ValidValue_j1 (s1 : TValue) (s65 : Bool) (k : List Fr) : Option Res := go T (enF [.tmp 2] []) v110_j1 k ⟨[Z, .box [D.int .i64 s1.Kind, D.int .i64 s1.Num, D.str s1.Text, D.int .i64 s1.Ref], Z, Z, Z, Z, Z, Z, Z, Z, Z, Z, Z, Z, Z, Z, Z, Z, Z, Z, Z, Z, Z, Z, Z, Z, Z, Z, Z, Z, Z, Z, Z, Z, Z, Z, Z, Z, Z, Z, Z, Z, Z, Z, Z, Z, Z, Z, Z, Z, Z, Z, Z, Z, Z, Z, Z, Z, Z, Z, Z, Z, Z, Z, Z, .d (D.bool s65), Z, Z, Z, Z, Z, Z, Z, Z, Z, Z, Z, Z, Z, Z], []⟩
noncomputable abbrev q_i_ValidValue_j1 (s1 : TValue) (s65 : Bool) (k : List Fr) (t : (Bool ⊕ Bool)) (x : Option Res) : Prop := match t with | .inl t => x = bk T (enF [.tmp 2] []) k ⟨[Z, .box [D.int .i64 s1.Kind, D.int .i64 s1.Num, D.str s1.Text, D.int .i64 s1.Ref], Z, Z, Z, Z, Z, Z, Z, Z, Z, Z, Z, Z, Z, Z, Z, Z, Z, Z, Z, Z, Z, Z, Z, Z, Z, Z, Z, Z, Z, Z, Z, Z, Z, Z, Z, Z, Z, Z, Z, Z, Z, Z, Z, Z, Z, Z, Z, Z, Z, Z, Z, Z, Z, Z, Z, Z, Z, Z, Z, Z, Z, Z, Z, .d (D.bool t), Z, Z, Z, Z, Z, Z, Z, Z, Z, Z, Z, Z, Z, Z], []⟩ | .inr t => Pu (D.bool t) [] x
theorem p_i_ValidValue_j1 (s1 : TValue) (s65 : Bool) (k : List Fr) : Le (q_i_ValidValue_j1 s1 s65 k) (i_ValidValue_j1 s1 s65) (x_i_ValidValue_j1 s1 s65 k) := by
  unfold i_ValidValue_j1 x_i_ValidValue_j1 v110_j1
  repeat' (try conv => arg 3; simp (maxSteps := 999999) only [sx, ty, ↓reduceIte, reduceCtorEq, Nat.reduceAdd, Nat.reduceSub, Nat.reduceLeDiff, Nat.reduceEqDiff, Nat.reduceLT, Nat.reduceMul, Nat.reduceBNe, List.reduceReplicate, Int.reduceLE, Int.reduceLT, Int.reduceEq, Int.reduceToNat, Int.reduceNeg, *]); first
    | (refine Le.call (g_i_IsName _) fun _ _ _ hy => ?_; obtain ⟨_, rfl⟩ := hy)
    | with_reducible refine Le.bool (fun _ => ?_) (fun _ => ?_)
    | ((with_reducible refine Le.ret ?_); first | exact rfl | exact Pu.mk)
    | with_reducible refine Le.itq (fun _ => ?_) (fun _ => ?_)
noncomputable abbrev x_i_ValidValue_j2 (s1 : TValue) (s4 : Int) (s49 : Bool) (k : List Fr) : Option Res := go T (enF [.tmp 2] []) v110_j2 k ⟨[Z, .box [D.int .i64 s1.Kind, D.int .i64 s1.Num, D.str s1.Text, D.int .i64 s1.Ref], Z, Z, .d (D.int .i64 s4), Z, Z, Z, Z, Z, Z, Z, Z, Z, Z, Z, Z, Z, Z, Z, Z, Z, Z, Z, Z, Z, Z, Z, Z, Z, Z, Z, Z, Z, Z, Z, Z, Z, Z, Z, Z, Z, Z, Z, Z, Z, Z, Z, Z, .d (D.bool s49), Z, Z, Z, Z, Z, Z, Z, Z, Z, Z, Z, Z, Z, Z, Z, Z, Z, Z, Z, Z, Z, Z, Z, Z, Z, Z, Z, Z, Z, Z], []⟩
noncomputable abbrev q_i_ValidValue_j2 (s1 : TValue) (s4 : Int) (s49 : Bool) (k : List Fr) (t : (Bool ⊕ Bool)) (x : Option Res) : Prop := match t with | .inl t => x = bk T (enF [.tmp 2] []) k ⟨[Z, .box [D.int .i64 s1.Kind, D.int .i64 s1.Num, D.str s1.Text, D.int .i64 s1.Ref], Z, Z, Z, Z, Z, Z, Z, Z, Z, Z, Z, Z, Z, Z, Z, Z, Z, Z, Z, Z, Z, Z, Z, Z, Z, Z, Z, Z, Z, Z, Z, Z, Z, Z, Z, Z, Z, Z, Z, Z, Z, Z, Z, Z, Z, Z, Z, Z, Z, Z, Z, Z, Z, Z, Z, Z, Z, Z, Z, Z, Z, Z, Z, .d (D.bool t), Z, Z, Z, Z, Z, Z, Z, Z, Z, Z, Z, Z, Z, Z], []⟩ | .inr t => Pu (D.bool t) [] x
theorem p_i_ValidValue_j2 (s1 : TValue) (s4 : Int) (s49 : Bool) (k : List Fr) : Le (q_i_ValidValue_j2 s1 s4 s49 k) (i_ValidValue_j2 s1 s4 s49) (x_i_ValidValue_j2 s1 s4 s49 k) := by
  unfold i_ValidValue_j2 x_i_ValidValue_j2 v110_j2
  repeat' (try conv => arg 3; simp (maxSteps := 999999) only [sx, ty, ↓reduceIte, reduceCtorEq, Nat.reduceAdd, Nat.reduceSub, Nat.reduceLeDiff, Nat.reduceEqDiff, Nat.reduceLT, Nat.reduceMul, Nat.reduceBNe, List.reduceReplicate, Int.reduceLE, Int.reduceLT, Int.reduceEq, Int.reduceToNat, Int.reduceNeg, *]); first
    | (refine Le.call (g_i_isObjectId _) fun _ _ _ hy => ?_; obtain ⟨_, rfl⟩ := hy)
    | (refine Le.via (p_i_ValidValue_j1 _ _ _) fun t _ _ hy => ?_; rcases t with t | t <;> (try dsimp only [q_i_ValidValue_j1] at hy; first | subst hy | obtain ⟨_, rfl⟩ := hy))
    | with_reducible refine Le.bool (fun _ => ?_) (fun _ => ?_)
    | ((with_reducible refine Le.ret ?_); first | exact rfl | exact Pu.mk)
    | with_reducible refine Le.itq (fun _ => ?_) (fun _ => ?_)
theorem g_i_ValidValue (p0 : TValue) : Le (fun r x => Pu (D.bool r) [] x) (i_ValidValue p0) (vcall T 110 [D.agg [D.int .i64 p0.Kind, D.int .i64 p0.Num, D.str p0.Text, D.int .i64 p0.Ref]] []) := by
  unfold i_ValidValue
  refine Le.enter (g := v110) rfl rfl rfl rfl ?_
  repeat' (try conv => arg 3; simp (maxSteps := 999999) only [sx, ty, ↓reduceIte, reduceCtorEq, Nat.reduceAdd, Nat.reduceSub, Nat.reduceLeDiff, Nat.reduceEqDiff, Nat.reduceLT, Nat.reduceMul, Nat.reduceBNe, List.reduceReplicate, Int.reduceLE, Int.reduceLT, Int.reduceEq, Int.reduceToNat, Int.reduceNeg, *, v110, v110_b]); first
    | (refine Le.call (g_i_within _ _ _) fun _ _ _ hy => ?_; obtain ⟨_, rfl⟩ := hy)
    | (refine Le.via (p_i_ValidValue_j2 _ _ _ _) fun t _ _ hy => ?_; rcases t with t | t <;> (try dsimp only [q_i_ValidValue_j2] at hy; first | subst hy | obtain ⟨_, rfl⟩ := hy))
    | ((with_reducible refine Le.ret ?_); first | exact rfl | exact Pu.mk)
    | with_reducible refine Le.itq (fun _ => ?_) (fun _ => ?_)
noncomputable abbrev x_i_areAll_Value_l1 (s0 : List TValue) (s7 : List TValue) (s8 : Int) (s9 : Int) (k : List Fr) : Option Res := go T (enF [.tmp 4] []) v222_m1 (.lp v222_l1 :: .bl 0 :: .sq (.clr [4,6,7,8,9,10,11,12,13,14,15,16,17]) :: k) ⟨[.d (D.sl false 4 (List.map (TValue.e false) s0)), .d (D.fn 110 []), Z, Z, Z, Z, Z, .d (D.sl false 4 (List.map (TValue.e false) s7)), .d (D.int .i64 s8), .d (D.int .i64 s9), Z, Z, Z, Z, Z, Z, Z, Z], []⟩
noncomputable abbrev q_i_areAll_Value_l1 (s0 : List TValue) (s7 : List TValue) (s8 : Int) (k : List Fr) (t : (Unit ⊕ Bool)) (x : Option Res) : Prop := match t with | .inl t => x = bk T (enF [.tmp 4] []) k ⟨[.d (D.sl false 4 (List.map (TValue.e false) s0)), .d (D.fn 110 []), Z, Z, Z, Z, Z, Z, Z, Z, Z, Z, Z, Z, Z, Z, Z, Z], []⟩ | .inr t => Pu (D.bool t) [] x
theorem p_i_areAll_Value_l1 (s0 : List TValue) (s7 : List TValue) (s8 : Int) : ∀ (s9 : Int) (k : List Fr), Le (q_i_areAll_Value_l1 s0 s7 s8 k) (i_areAll_Value_l1 s0 s7 s8 s9) (x_i_areAll_Value_l1 s0 s7 s8 s9 k) := by
  intro s9 k
  refine Le.cp (X := x_i_areAll_Value_l1 s0 s7 s8 s9) (Q := q_i_areAll_Value_l1 s0 s7 s8) ?_ k
  refine i_areAll_Value_l1.partial_correctness s0 s7 s8 (motive := fun s9 r => ∀ k : List Fr, q_i_areAll_Value_l1 s0 s7 s8 k r (x_i_areAll_Value_l1 s0 s7 s8 s9 k)) ?_ s9
  intro rec hrec s9
  refine Le.pc ?_
  intro k
  unfold x_i_areAll_Value_l1 v222_m1
  repeat' (try conv => arg 3; simp (maxSteps := 999999) only [sx, ty, ↓reduceIte, reduceCtorEq, Nat.reduceAdd, Nat.reduceSub, Nat.reduceLeDiff, Nat.reduceEqDiff, Nat.reduceLT, Nat.reduceMul, Nat.reduceBNe, List.reduceReplicate, Int.reduceLE, Int.reduceLT, Int.reduceEq, Int.reduceToNat, Int.reduceNeg, *, w222_1]); first
    | (refine Le.call (g_i_ValidValue _) fun _ _ _ hy => ?_; obtain ⟨_, rfl⟩ := hy)
    | with_reducible refine Le.idx fun _ _ _ _ => ?_
    | with_reducible refine Le.bool (fun _ => ?_) (fun _ => ?_)
    | ((with_reducible refine Le.ret ?_); first | exact rfl | exact Pu.mk)
    | with_reducible refine Le.itq (fun _ => ?_) (fun _ => ?_)
    | exact fun r hr => hrec _ r hr k
theorem g_i_areAll_Value (p0 : List TValue) : Le (fun r x => Pu (D.bool r) [] x) (i_areAll_Value p0) (vcall T 222 [D.sl false 4 (List.map (TValue.e false) p0), D.fn 110 []] []) := by
  unfold i_areAll_Value
  refine Le.enter (g := v222) rfl rfl rfl rfl ?_
  repeat' (try conv => arg 3; simp (maxSteps := 999999) only [sx, ty, ↓reduceIte, reduceCtorEq, Nat.reduceAdd, Nat.reduceSub, Nat.reduceLeDiff, Nat.reduceEqDiff, Nat.reduceLT, Nat.reduceMul, Nat.reduceBNe, List.reduceReplicate, Int.reduceLE, Int.reduceLT, Int.reduceEq, Int.reduceToNat, Int.reduceNeg, *, w222_1, v222, v222_b]); first
    | (refine Le.via (p_i_areAll_Value_l1 _ _ _ _ _) fun t _ _ hy => ?_; rcases t with t | t <;> (try dsimp only [q_i_areAll_Value_l1] at hy; first | subst hy | obtain ⟨_, rfl⟩ := hy))
    | ((with_reducible refine Le.ret ?_); first | exact rfl | exact Pu.mk)
noncomputable abbrev x_slices_Index_Value_Value_l1 (s0 : List TValue) (s3 : TValue) (s7 : Int) (s8 : Int) (k : List Fr) : Option Res := go T (enF [.tmp 4] []) v297_m1 (.lp v297_l1 :: .bl 0 :: .sq (.clr [1,3,4,5,6,7,8,9,10,11,12,13,14,15,16,17,18]) :: k) ⟨[.d (D.sl false 4 (List.map (TValue.e false) s0)), Z, Z, .box [D.int .i64 s3.Kind, D.int .i64 s3.Num, D.str s3.Text, D.int .i64 s3.Ref], Z, Z, Z, .d (D.int .i64 s7), .d (D.int .i64 s8), Z, Z, Z, Z, Z, Z, Z, Z, Z, Z], []⟩
noncomputable abbrev q_slices_Index_Value_Value_l1 (s0 : List TValue) (s3 : TValue) (s7 : Int) (k : List Fr) (t : (Unit ⊕ Int)) (x : Option Res) : Prop := match t with | .inl t => x = bk T (enF [.tmp 4] []) k ⟨[.d (D.sl false 4 (List.map (TValue.e false) s0)), Z, Z, Z, Z, Z, Z, Z, Z, Z, Z, Z, Z, Z, Z, Z, Z, Z, Z], []⟩ | .inr t => Pu (D.int .i64 t) [] x
theorem p_slices_Index_Value_Value_l1 (s0 : List TValue) (s3 : TValue) (s7 : Int) : ∀ (s8 : Int) (k : List Fr), Le (q_slices_Index_Value_Value_l1 s0 s3 s7 k) (slices_Index_Value_Value_l1 s0 s3 s7 s8) (x_slices_Index_Value_Value_l1 s0 s3 s7 s8 k) := by
  intro s8 k
  refine Le.cp (X := x_slices_Index_Value_Value_l1 s0 s3 s7 s8) (Q := q_slices_Index_Value_Value_l1 s0 s3 s7) ?_ k
  refine slices_Index_Value_Value_l1.partial_correctness s0 s3 s7 (motive := fun s8 r => ∀ k : List Fr, q_slices_Index_Value_Value_l1 s0 s3 s7 k r (x_slices_Index_Value_Value_l1 s0 s3 s7 s8 k)) ?_ s8
  intro rec hrec s8
  refine Le.pc ?_
  intro k
  unfold x_slices_Index_Value_Value_l1 v297_m1
  repeat' (try conv => arg 3; simp (maxSteps := 999999) only [sx, ty, ↓reduceIte, reduceCtorEq, Nat.reduceAdd, Nat.reduceSub, Nat.reduceLeDiff, Nat.reduceEqDiff, Nat.reduceLT, Nat.reduceMul, Nat.reduceBNe, List.reduceReplicate, Int.reduceLE, Int.reduceLT, Int.reduceEq, Int.reduceToNat, Int.reduceNeg, *, w297_1]); first
    | with_reducible refine Le.idx fun _ _ _ _ => ?_
    | ((with_reducible refine Le.ret ?_); first | exact rfl | exact Pu.mk)
    | with_reducible refine Le.itq (fun _ => ?_) (fun _ => ?_)
    | exact fun r hr => hrec _ r hr k
theorem g_slices_Index_Value_Value (p0 : List TValue) (p1 : TValue) : Le (fun r x => Pu (D.int .i64 r) [] x) (slices_Index_Value_Value p0 p1) (vcall T 297 [D.sl false 4 (List.map (TValue.e false) p0), D.agg [D.int .i64 p1.Kind, D.int .i64 p1.Num, D.str p1.Text, D.int .i64 p1.Ref]] []) := by
  unfold slices_Index_Value_Value
  refine Le.enter (g := v297) rfl rfl rfl rfl ?_
  repeat' (try conv => arg 3; simp (maxSteps := 999999) only [sx, ty, ↓reduceIte, reduceCtorEq, Nat.reduceAdd, Nat.reduceSub, Nat.reduceLeDiff, Nat.reduceEqDiff, Nat.reduceLT, Nat.reduceMul, Nat.reduceBNe, List.reduceReplicate, Int.reduceLE, Int.reduceLT, Int.reduceEq, Int.reduceToNat, Int.reduceNeg, *, w297_1, v297, v297_b]); first
    | (refine Le.via (p_slices_Index_Value_Value_l1 _ _ _ _ _) fun t _ _ hy => ?_; rcases t with t | t <;> (try dsimp only [q_slices_Index_Value_Value_l1] at hy; first | subst hy | obtain ⟨_, rfl⟩ := hy))
    | ((with_reducible refine Le.ret ?_); first | exact rfl | exact Pu.mk)
theorem g_slices_Contains_Value_Value (p0 : List TValue) (p1 : TValue) : Le (fun r x => Pu (D.bool r) [] x) (slices_Contains_Value_Value p0 p1) (vcall T 292 [D.sl false 4 (List.map (TValue.e false) p0), D.agg [D.int .i64 p1.Kind, D.int .i64 p1.Num, D.str p1.Text, D.int .i64 p1.Ref]] []) := by
  unfold slices_Contains_Value_Value
  refine Le.enter (g := v292) rfl rfl rfl rfl ?_
  repeat' (try conv => arg 3; simp (maxSteps := 999999) only [sx, ty, ↓reduceIte, reduceCtorEq, Nat.reduceAdd, Nat.reduceSub, Nat.reduceLeDiff, Nat.reduceEqDiff, Nat.reduceLT, Nat.reduceMul, Nat.reduceBNe, List.reduceReplicate, Int.reduceLE, Int.reduceLT, Int.reduceEq, Int.reduceToNat, Int.reduceNeg, *, v292, v292_b]); first
    | (refine Le.call (g_slices_Index_Value_Value _ _) fun _ _ _ hy => ?_; obtain ⟨_, rfl⟩ := hy)
    | ((with_reducible refine Le.ret ?_); first | exact rfl | exact Pu.mk)
noncomputable abbrev x_i_areDifferent_l1 (s0 : List TValue) (s5 : List TValue) (s6 : Int) (s7 : Int) (k : List Fr) : Option Res := go T (enF [.tmp 2] []) v277_m1 (.lp v277_l1 :: .bl 0 :: .sq (.clr [2,3,4,5,6,7,8,9,10,11,12,13,14,15,16,17]) :: k) ⟨[.d (D.sl false 4 (List.map (TValue.e false) s0)), Z, Z, Z, Z, .d (D.sl false 4 (List.map (TValue.e false) s5)), .d (D.int .i64 s6), .d (D.int .i64 s7), Z, Z, Z, Z, Z, Z, Z, Z, Z, Z], []⟩
noncomputable abbrev q_i_areDifferent_l1 (s0 : List TValue) (s5 : List TValue) (s6 : Int) (k : List Fr) (t : (Unit ⊕ Bool)) (x : Option Res) : Prop := match t with | .inl t => x = bk T (enF [.tmp 2] []) k ⟨[.d (D.sl false 4 (List.map (TValue.e false) s0)), Z, Z, Z, Z, Z, Z, Z, Z, Z, Z, Z, Z, Z, Z, Z, Z, Z], []⟩ | .inr t => Pu (D.bool t) [] x
theorem p_i_areDifferent_l1 (s0 : List TValue) (s5 : List TValue) (s6 : Int) : ∀ (s7 : Int) (k : List Fr), Le (q_i_areDifferent_l1 s0 s5 s6 k) (i_areDifferent_l1 s0 s5 s6 s7) (x_i_areDifferent_l1 s0 s5 s6 s7 k) := by
  intro s7 k
  refine Le.cp (X := x_i_areDifferent_l1 s0 s5 s6 s7) (Q := q_i_areDifferent_l1 s0 s5 s6) ?_ k
  refine i_areDifferent_l1.partial_correctness s0 s5 s6 (motive := fun s7 r => ∀ k : List Fr, q_i_areDifferent_l1 s0 s5 s6 k r (x_i_areDifferent_l1 s0 s5 s6 s7 k)) ?_ s7
  intro rec hrec s7
  refine Le.pc ?_
  intro k
  unfold x_i_areDifferent_l1 v277_m1
  try conv => arg 3; simp (maxSteps := 999999) only [sx, ty, ↓reduceIte, reduceCtorEq, Nat.reduceAdd, Nat.reduceSub, Nat.reduceLeDiff, Nat.reduceEqDiff, Nat.reduceLT, Nat.reduceMul, Nat.reduceBNe, List.reduceReplicate, Int.reduceLE, Int.reduceLT, Int.reduceEq, Int.reduceToNat, Int.reduceNeg, *, w277_1]
  refine Le.itq (fun h => ?_) (fun h => ?_)
  · try conv => arg 3; simp (maxSteps := 999999) only [sx, ty, ↓reduceIte, reduceCtorEq, Nat.reduceAdd, Nat.reduceSub, Nat.reduceLeDiff, Nat.reduceEqDiff, Nat.reduceLT, Nat.reduceMul, Nat.reduceBNe, List.reduceReplicate, Int.reduceLE, Int.reduceLT, Int.reduceEq, Int.reduceToNat, Int.reduceNeg, *, w277_1]
    refine Le.idx fun a10 h_1 h_2 h_3 => ?_
    try conv => arg 3; simp (maxSteps := 999999) only [sx, ty, ↓reduceIte, reduceCtorEq, Nat.reduceAdd, Nat.reduceSub, Nat.reduceLeDiff, Nat.reduceEqDiff, Nat.reduceLT, Nat.reduceMul, Nat.reduceBNe, List.reduceReplicate, Int.reduceLE, Int.reduceLT, Int.reduceEq, Int.reduceToNat, Int.reduceNeg, *, w277_1]
    refine Le.subH fun c14 h_4 h_5 h_6 => ?_
    replace h_4 : List.take s7.toNat (List.map (TValue.e false) s0) = List.map (TValue.e false) c14 := by rw [h_4]; exact subH_fold ..
    repeat' (try conv => arg 3; simp (maxSteps := 999999) only [sx, ty, ↓reduceIte, reduceCtorEq, Nat.reduceAdd, Nat.reduceSub, Nat.reduceLeDiff, Nat.reduceEqDiff, Nat.reduceLT, Nat.reduceMul, Nat.reduceBNe, List.reduceReplicate, Int.reduceLE, Int.reduceLT, Int.reduceEq, Int.reduceToNat, Int.reduceNeg, *, w277_1]); first
      | (refine Le.dcall (g_slices_Contains_Value_Value _ _) fun _ _ _ hy => ?_; obtain ⟨_, rfl⟩ := hy)
      | with_reducible refine Le.bool (fun _ => ?_) (fun _ => ?_)
      | ((with_reducible refine Le.ret ?_); first | exact rfl | exact Pu.mk)
      | exact fun r hr => hrec _ r hr k
  · try conv => arg 3; simp (maxSteps := 999999) only [sx, ty, ↓reduceIte, reduceCtorEq, Nat.reduceAdd, Nat.reduceSub, Nat.reduceLeDiff, Nat.reduceEqDiff, Nat.reduceLT, Nat.reduceMul, Nat.reduceBNe, List.reduceReplicate, Int.reduceLE, Int.reduceLT, Int.reduceEq, Int.reduceToNat, Int.reduceNeg, *, w277_1]
    ((with_reducible refine Le.ret ?_); first | exact rfl | exact Pu.mk)
theorem g_i_areDifferent (p0 : List TValue) : Le (fun r x => Pu (D.bool r) [] x) (i_areDifferent p0) (vcall T 277 [D.sl false 4 (List.map (TValue.e false) p0)] []) := by
  unfold i_areDifferent
  refine Le.enter (g := v277) rfl rfl rfl rfl ?_
  repeat' (try conv => arg 3; simp (maxSteps := 999999) only [sx, ty, ↓reduceIte, reduceCtorEq, Nat.reduceAdd, Nat.reduceSub, Nat.reduceLeDiff, Nat.reduceEqDiff, Nat.reduceLT, Nat.reduceMul, Nat.reduceBNe, List.reduceReplicate, Int.reduceLE, Int.reduceLT, Int.reduceEq, Int.reduceToNat, Int.reduceNeg, *, w277_1, v277, v277_b]); first
    | (refine Le.via (p_i_areDifferent_l1 _ _ _ _ _) fun t _ _ hy => ?_; rcases t with t | t <;> (try dsimp only [q_i_areDifferent_l1] at hy; first | subst hy | obtain ⟨_, rfl⟩ := hy))
    | ((with_reducible refine Le.ret ?_); first | exact rfl | exact Pu.mk)
theorem g_i_textOf (p0 : ByteArray) : Le (fun r x => Pu (D.agg [D.int .i64 r.Kind, D.int .i64 r.Num, D.str r.Text, D.int .i64 r.Ref]) [] x) (i_textOf p0) (vcall T 102 [D.str p0] []) := by
  unfold i_textOf
  refine Le.enter (g := v102) rfl rfl rfl rfl ?_
  try conv => arg 3; simp (maxSteps := 999999) only [sx, ty, ↓reduceIte, reduceCtorEq, Nat.reduceAdd, Nat.reduceSub, Nat.reduceLeDiff, Nat.reduceEqDiff, Nat.reduceLT, Nat.reduceMul, Nat.reduceBNe, List.reduceReplicate, Int.reduceLE, Int.reduceLT, Int.reduceEq, Int.reduceToNat, Int.reduceNeg, *, v102, v102_b]
  ((with_reducible refine Le.ret ?_); first | exact rfl | exact Pu.mk)
theorem g_i_isField (p0 : TValue) : Le (fun r x => Pu (D.bool r) [] x) (i_isField p0) (vcall T 278 [D.agg [D.int .i64 p0.Kind, D.int .i64 p0.Num, D.str p0.Text, D.int .i64 p0.Ref]] []) := by
  unfold i_isField
  refine Le.enter (g := v278) rfl rfl rfl rfl ?_
  repeat' (try conv => arg 3; simp (maxSteps := 999999) only [sx, ty, ↓reduceIte, reduceCtorEq, Nat.reduceAdd, Nat.reduceSub, Nat.reduceLeDiff, Nat.reduceEqDiff, Nat.reduceLT, Nat.reduceMul, Nat.reduceBNe, List.reduceReplicate, Int.reduceLE, Int.reduceLT, Int.reduceEq, Int.reduceToNat, Int.reduceNeg, *, v278, v278_b]); first
    | (refine Le.dcall (g_i_textOf _) fun _ _ _ hy => ?_; obtain ⟨_, rfl⟩ := hy)
    | (refine Le.dcall (g_i_IsName _) fun _ _ _ hy => ?_; obtain ⟨_, rfl⟩ := hy)
    | ((with_reducible refine Le.ret ?_); first | exact rfl | exact Pu.mk)
    | with_reducible refine Le.itq (fun _ => ?_) (fun _ => ?_)
noncomputable abbrev x_i_areAll_Value_1_l1 (s0 : List TValue) (s7 : List TValue) (s8 : Int) (s9 : Int) (k : List Fr) : Option Res := go T (enF [.tmp 4] []) v222_m1 (.lp v222_l1 :: .bl 0 :: .sq (.clr [4,6,7,8,9,10,11,12,13,14,15,16,17]) :: k) ⟨[.d (D.sl false 4 (List.map (TValue.e false) s0)), .d (D.fn 278 []), Z, Z, Z, Z, Z, .d (D.sl false 4 (List.map (TValue.e false) s7)), .d (D.int .i64 s8), .d (D.int .i64 s9), Z, Z, Z, Z, Z, Z, Z, Z], []⟩
noncomputable abbrev q_i_areAll_Value_1_l1 (s0 : List TValue) (s7 : List TValue) (s8 : Int) (k : List Fr) (t : (Unit ⊕ Bool)) (x : Option Res) : Prop := match t with | .inl t => x = bk T (enF [.tmp 4] []) k ⟨[.d (D.sl false 4 (List.map (TValue.e false) s0)), .d (D.fn 278 []), Z, Z, Z, Z, Z, Z, Z, Z, Z, Z, Z, Z, Z, Z, Z, Z], []⟩ | .inr t => Pu (D.bool t) [] x
theorem p_i_areAll_Value_1_l1 (s0 : List TValue) (s7 : List TValue) (s8 : Int) : ∀ (s9 : Int) (k : List Fr), Le (q_i_areAll_Value_1_l1 s0 s7 s8 k) (i_areAll_Value_1_l1 s0 s7 s8 s9) (x_i_areAll_Value_1_l1 s0 s7 s8 s9 k) := by
  intro s9 k
  refine Le.cp (X := x_i_areAll_Value_1_l1 s0 s7 s8 s9) (Q := q_i_areAll_Value_1_l1 s0 s7 s8) ?_ k
  refine i_areAll_Value_1_l1.partial_correctness s0 s7 s8 (motive := fun s9 r => ∀ k : List Fr, q_i_areAll_Value_1_l1 s0 s7 s8 k r (x_i_areAll_Value_1_l1 s0 s7 s8 s9 k)) ?_ s9
  intro rec hrec s9
  refine Le.pc ?_
  intro k
  unfold x_i_areAll_Value_1_l1 v222_m1
  repeat' (try conv => arg 3; simp (maxSteps := 999999) only [sx, ty, ↓reduceIte, reduceCtorEq, Nat.reduceAdd, Nat.reduceSub, Nat.reduceLeDiff, Nat.reduceEqDiff, Nat.reduceLT, Nat.reduceMul, Nat.reduceBNe, List.reduceReplicate, Int.reduceLE, Int.reduceLT, Int.reduceEq, Int.reduceToNat, Int.reduceNeg, *, w222_1]); first
    | (refine Le.call (g_i_isField _) fun _ _ _ hy => ?_; obtain ⟨_, rfl⟩ := hy)
    | with_reducible refine Le.idx fun _ _ _ _ => ?_
    | with_reducible refine Le.bool (fun _ => ?_) (fun _ => ?_)
    | ((with_reducible refine Le.ret ?_); first | exact rfl | exact Pu.mk)
    | with_reducible refine Le.itq (fun _ => ?_) (fun _ => ?_)
    | exact fun r hr => hrec _ r hr k
theorem g_i_areAll_Value_1 (p0 : List TValue) : Le (fun r x => Pu (D.bool r) [] x) (i_areAll_Value_1 p0) (vcall T 222 [D.sl false 4 (List.map (TValue.e false) p0), D.fn 278 []] []) := by
  unfold i_areAll_Value_1
  refine Le.enter (g := v222) rfl rfl rfl rfl ?_
  repeat' (try conv => arg 3; simp (maxSteps := 999999) only [sx, ty, ↓reduceIte, reduceCtorEq, Nat.reduceAdd, Nat.reduceSub, Nat.reduceLeDiff, Nat.reduceEqDiff, Nat.reduceLT, Nat.reduceMul, Nat.reduceBNe, List.reduceReplicate, Int.reduceLE, Int.reduceLT, Int.reduceEq, Int.reduceToNat, Int.reduceNeg, *, w222_1, v222, v222_b]); first
    | (refine Le.via (p_i_areAll_Value_1_l1 _ _ _ _ _) fun t _ _ hy => ?_; rcases t with t | t <;> (try dsimp only [q_i_areAll_Value_1_l1] at hy; first | subst hy | obtain ⟨_, rfl⟩ := hy))
    | ((with_reducible refine Le.ret ?_); first | exact rfl | exact Pu.mk)
end Go.Vx.NrZ
