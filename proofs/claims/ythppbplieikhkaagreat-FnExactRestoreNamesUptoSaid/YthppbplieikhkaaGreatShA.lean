/-
  What the plain functions give, the program gives too.
-/
import Derived.Test.YthppbplieikhkaaGreatCode
import Derived.Test.YthppbplieikhkaaGreatDef
set_option linter.unusedVariables false
set_option linter.unusedSimpArgs false
namespace Go.Vx.RnZ
set_option linter.unusedVariables false
set_option linter.unusedSimpArgs false
set_option maxRecDepth 10000
set_option maxHeartbeats 2000000
theorem zhN (p0 : Int) : Le (fun r x => Pu (D.bool r) [] x) (zdG p0) (zab T 115 [D.int .u8 p0] []) := by
 unfold zdG
 refine Le.enter (g := v115) rfl rfl rfl rfl ?_
 repeat' (try conv => arg 3; simp (maxSteps := 999999) only [sx, ty, ↓reduceIte, reduceCtorEq, Nat.reduceAdd, Nat.reduceSub, Nat.reduceLeDiff, Nat.reduceEqDiff, Nat.reduceLT, Nat.reduceMul, Nat.reduceBNe, List.reduceReplicate, Int.reduceLE, Int.reduceLT, Int.reduceEq, Int.reduceToNat, Int.reduceNeg, *, v115, ztO]); first
  | ((with_reducible refine Le.ret ?_); first | exact rfl | exact Pu.mk)
  | with_reducible refine Le.itq (fun _ => ?_) (fun _ => ?_)
theorem znn (p0 : Int) : Le (fun r x => Pu (D.bool r) [] x) (zeW p0) (zab T 116 [D.int .u8 p0] []) := by
 unfold zeW
 refine Le.enter (g := v116) rfl rfl rfl rfl ?_
 repeat' (try conv => arg 3; simp (maxSteps := 999999) only [sx, ty, ↓reduceIte, reduceCtorEq, Nat.reduceAdd, Nat.reduceSub, Nat.reduceLeDiff, Nat.reduceEqDiff, Nat.reduceLT, Nat.reduceMul, Nat.reduceBNe, List.reduceReplicate, Int.reduceLE, Int.reduceLT, Int.reduceEq, Int.reduceToNat, Int.reduceNeg, *, v116, ztP]); first
  | ((with_reducible refine Le.ret ?_); first | exact rfl | exact Pu.mk)
  | with_reducible refine Le.itq (fun _ => ?_) (fun _ => ?_)
noncomputable abbrev zcH (s0 : ByteArray) (s1 : Int) (k : List Fr) : Option Res := go T (enF [.tmp 4] []) zpx (.lp zpy :: .bl 0 :: .sq (.clr [4,5,6,7,8,9,10,11,12,13,14,15,16,17,18,19,20,21,22,23,24,25,26,27,28,29,30,31,32,33,34,35,36,37,38,39,40]) :: k) ⟨[.d (D.str s0), .d (D.int .i64 s1), Z, Z, Z, Z, Z, Z, Z, Z, Z, Z, Z, Z, Z, Z, Z, Z, Z, Z, Z, Z, Z, Z, Z, Z, Z, Z, Z, Z, Z, Z, Z, Z, Z, Z, Z, Z, Z, Z, Z, Z], []⟩
noncomputable abbrev zcI (s0 : ByteArray) (k : List Fr) (t : Int) (x : Option Res) : Prop := x = bk T (enF [.tmp 4] []) k ⟨[.d (D.str s0), .d (D.int .i64 t), Z, Z, Z, Z, Z, Z, Z, Z, Z, Z, Z, Z, Z, Z, Z, Z, Z, Z, Z, Z, Z, Z, Z, Z, Z, Z, Z, Z, Z, Z, Z, Z, Z, Z, Z, Z, Z, Z, Z, Z], []⟩
theorem zil (s0 : ByteArray) : ∀ (s1 : Int) (k : List Fr), Le (zcI s0 k) (zaW s0 s1) (zcH s0 s1 k) := by
 intro s1 k
 refine Le.cp (X := zcH s0 s1) (Q := zcI s0) ?_ k
 refine zaW.partial_correctness s0 (motive := fun s1 r => ∀ k : List Fr, zcI s0 k r (zcH s0 s1 k)) ?_ s1
 intro rec hrec s1
 refine Le.pc ?_
 intro k
 unfold zcH zpx
 repeat' (try conv => arg 3; simp (maxSteps := 999999) only [sx, ty, ↓reduceIte, reduceCtorEq, Nat.reduceAdd, Nat.reduceSub, Nat.reduceLeDiff, Nat.reduceEqDiff, Nat.reduceLT, Nat.reduceMul, Nat.reduceBNe, List.reduceReplicate, Int.reduceLE, Int.reduceLT, Int.reduceEq, Int.reduceToNat, Int.reduceNeg, *, zuX]); first
  | (refine Le.call (zhN _) fun _ _ _ hy => ?_; obtain ⟨_, rfl⟩ := hy)
  | (refine Le.call (znn _) fun _ _ _ hy => ?_; obtain ⟨_, rfl⟩ := hy)
  | with_reducible refine Le.idxB fun _ _ _ _ => ?_
  | with_reducible refine Le.bool (fun _ => ?_) (fun _ => ?_)
  | ((with_reducible refine Le.ret ?_); first | exact rfl | exact Pu.mk)
  | with_reducible refine Le.itq (fun _ => ?_) (fun _ => ?_)
  | exact fun r hr => hrec _ r hr k
noncomputable abbrev zeY (s0 : ByteArray) (s1 : Int) (k : List Fr) : Option Res := go T (enF [.tmp 4] []) zrV k ⟨[.d (D.str s0), .d (D.int .i64 s1), Z, Z, Z, Z, Z, Z, Z, Z, Z, Z, Z, Z, Z, Z, Z, Z, Z, Z, Z, Z, Z, Z, Z, Z, Z, Z, Z, Z, Z, Z, Z, Z, Z, Z, Z, Z, Z, Z, Z, Z], []⟩
noncomputable abbrev zim (s0 : ByteArray) (s1 : Int) (k : List Fr) (t : Int) (x : Option Res) : Prop := Pu (D.int .i64 t) [] x
theorem zin (s0 : ByteArray) (s1 : Int) (k : List Fr) : Le (zim s0 s1 k) (zdt s0 s1) (zeY s0 s1 k) := by
 unfold zdt zeY zrV
 repeat' (try conv => arg 3; simp (maxSteps := 999999) only [sx, ty, ↓reduceIte, reduceCtorEq, Nat.reduceAdd, Nat.reduceSub, Nat.reduceLeDiff, Nat.reduceEqDiff, Nat.reduceLT, Nat.reduceMul, Nat.reduceBNe, List.reduceReplicate, Int.reduceLE, Int.reduceLT, Int.reduceEq, Int.reduceToNat, Int.reduceNeg, *, zuX]); first
  | (refine Le.via (zil _ _ _) fun _ _ _ hy => ?_; try dsimp only [zcI] at hy; first | subst hy | obtain ⟨_, rfl⟩ := hy)
  | ((with_reducible refine Le.ret ?_); first | exact rfl | exact Pu.mk)
theorem zkG (p0 : ByteArray) (p1 : Int) : Le (fun r x => Pu (D.int .i64 r) [] x) (zeF p0 p1) (zab T 68 [D.str p0, D.int .i64 p1] []) := by
 unfold zeF
 refine Le.enter (g := v68) rfl rfl rfl rfl ?_
 repeat' (try conv => arg 3; simp (maxSteps := 999999) only [sx, ty, ↓reduceIte, reduceCtorEq, Nat.reduceAdd, Nat.reduceSub, Nat.reduceLeDiff, Nat.reduceEqDiff, Nat.reduceLT, Nat.reduceMul, Nat.reduceBNe, List.reduceReplicate, Int.reduceLE, Int.reduceLT, Int.reduceEq, Int.reduceToNat, Int.reduceNeg, *, zuX, v68, zwQ]); first
  | (refine Le.call (zhN _) fun _ _ _ hy => ?_; obtain ⟨_, rfl⟩ := hy)
  | exact zin _ _ _
  | ((with_reducible refine Le.ret ?_); first | exact rfl | exact Pu.mk)
  | with_reducible refine Le.idxB fun _ _ _ _ => ?_
  | with_reducible refine Le.bool (fun _ => ?_) (fun _ => ?_)
  | with_reducible refine Le.itq (fun _ => ?_) (fun _ => ?_)
theorem zet (p0 : ByteArray) : Le (fun r x => Pu (D.bool r) [] x) (zdu p0) (zab T 29 [D.str p0] []) := by
 unfold zdu
 refine Le.enter (g := v29) rfl rfl rfl rfl ?_
 repeat' (try conv => arg 3; simp (maxSteps := 999999) only [sx, ty, ↓reduceIte, reduceCtorEq, Nat.reduceAdd, Nat.reduceSub, Nat.reduceLeDiff, Nat.reduceEqDiff, Nat.reduceLT, Nat.reduceMul, Nat.reduceBNe, List.reduceReplicate, Int.reduceLE, Int.reduceLT, Int.reduceEq, Int.reduceToNat, Int.reduceNeg, *, v29, zwo]); first
  | (refine Le.call (zkG _ _) fun _ _ _ hy => ?_; obtain ⟨_, rfl⟩ := hy)
  | ((with_reducible refine Le.ret ?_); first | exact rfl | exact Pu.mk)
  | with_reducible refine Le.itq (fun _ => ?_) (fun _ => ?_)
theorem zgk (p0 : TValue) (p1 : Bool) (p2 : Bool) (p3 : Bool) : Le (fun r x => Pu (D.bool r) [] x) (zcF p0 p1 p2 p3) (zab T 69 [D.agg [D.int .i64 p0.Kind, D.int .i64 p0.Num, D.str p0.Text, D.int .i64 p0.Ref], D.bool p1, D.bool p2, D.bool p3] []) := by
 unfold zcF
 refine Le.enter (g := v69) rfl rfl rfl rfl ?_
 repeat' (try conv => arg 3; simp (maxSteps := 999999) only [sx, ty, ↓reduceIte, reduceCtorEq, Nat.reduceAdd, Nat.reduceSub, Nat.reduceLeDiff, Nat.reduceEqDiff, Nat.reduceLT, Nat.reduceMul, Nat.reduceBNe, List.reduceReplicate, Int.reduceLE, Int.reduceLT, Int.reduceEq, Int.reduceToNat, Int.reduceNeg, *, v69, zwR]); first
  | with_reducible refine Le.bool (fun _ => ?_) (fun _ => ?_)
  | ((with_reducible refine Le.ret ?_); first | exact rfl | exact Pu.mk)
  | with_reducible refine Le.itq (fun _ => ?_) (fun _ => ?_)
theorem zkf (p0 : Int) (p1 : Int) (p2 : Int) : Le (fun r x => Pu (D.bool r) [] x) (zgh p0 p1 p2) (zab T 70 [D.int .i64 p0, D.int .i64 p1, D.int .i64 p2] []) := by
 unfold zgh
 refine Le.enter (g := v70) rfl rfl rfl rfl ?_
 repeat' (try conv => arg 3; simp (maxSteps := 999999) only [sx, ty, ↓reduceIte, reduceCtorEq, Nat.reduceAdd, Nat.reduceSub, Nat.reduceLeDiff, Nat.reduceEqDiff, Nat.reduceLT, Nat.reduceMul, Nat.reduceBNe, List.reduceReplicate, Int.reduceLE, Int.reduceLT, Int.reduceEq, Int.reduceToNat, Int.reduceNeg, *, v70, zwS]); first
  | ((with_reducible refine Le.ret ?_); first | exact rfl | exact Pu.mk)
  | with_reducible refine Le.itq (fun _ => ?_) (fun _ => ?_)
noncomputable abbrev zeZ (s1 : TValue) (s45 : Bool) (k : List Fr) : Option Res := go T (enF [.tmp 2] []) zrI k ⟨[Z, .box [D.int .i64 s1.Kind, D.int .i64 s1.Num, D.str s1.Text, D.int .i64 s1.Ref], Z, Z, Z, Z, Z, Z, Z, Z, Z, Z, Z, Z, Z, Z, Z, Z, Z, Z, Z, Z, Z, Z, Z, Z, Z, Z, Z, Z, Z, Z, Z, Z, Z, Z, Z, Z, Z, Z, Z, Z, Z, Z, Z, .d (D.bool s45), Z, Z, Z, Z, Z, Z, Z, Z, Z], []⟩
noncomputable abbrev zfa (s1 : TValue) (s45 : Bool) (k : List Fr) (t : (Bool ⊕ Bool)) (x : Option Res) : Prop := match t with | .inl t => x = bk T (enF [.tmp 2] []) k ⟨[Z, .box [D.int .i64 s1.Kind, D.int .i64 s1.Num, D.str s1.Text, D.int .i64 s1.Ref], Z, Z, Z, Z, Z, Z, Z, Z, Z, Z, Z, Z, Z, Z, Z, Z, Z, Z, Z, Z, Z, Z, Z, Z, Z, Z, Z, Z, Z, Z, Z, Z, Z, Z, Z, Z, Z, Z, Z, Z, Z, Z, Z, .d (D.bool t), Z, Z, Z, Z, Z, Z, Z, Z, Z], []⟩ | .inr t => Pu (D.bool t) [] x
theorem zio (s1 : TValue) (s45 : Bool) (k : List Fr) : Le (zfa s1 s45 k) (zcA s1 s45) (zeZ s1 s45 k) := by
 unfold zcA zeZ zrI
 repeat' (try conv => arg 3; simp (maxSteps := 999999) only [sx, ty, ↓reduceIte, reduceCtorEq, Nat.reduceAdd, Nat.reduceSub, Nat.reduceLeDiff, Nat.reduceEqDiff, Nat.reduceLT, Nat.reduceMul, Nat.reduceBNe, List.reduceReplicate, Int.reduceLE, Int.reduceLT, Int.reduceEq, Int.reduceToNat, Int.reduceNeg, *]); first
  | (refine Le.call (zgk _ _ _ _) fun _ _ _ hy => ?_; obtain ⟨_, rfl⟩ := hy)
  | (refine Le.call (zet _) fun _ _ _ hy => ?_; obtain ⟨_, rfl⟩ := hy)
  | with_reducible refine Le.bool (fun _ => ?_) (fun _ => ?_)
  | ((with_reducible refine Le.ret ?_); first | exact rfl | exact Pu.mk)
noncomputable abbrev zfb (s1 : TValue) (s4 : Int) (s34 : Bool) (k : List Fr) : Option Res := go T (enF [.tmp 2] []) zrJ k ⟨[Z, .box [D.int .i64 s1.Kind, D.int .i64 s1.Num, D.str s1.Text, D.int .i64 s1.Ref], Z, Z, .d (D.int .i64 s4), Z, Z, Z, Z, Z, Z, Z, Z, Z, Z, Z, Z, Z, Z, Z, Z, Z, Z, Z, Z, Z, Z, Z, Z, Z, Z, Z, Z, Z, .d (D.bool s34), Z, Z, Z, Z, Z, Z, Z, Z, Z, Z, Z, Z, Z, Z, Z, Z, Z, Z, Z, Z], []⟩
noncomputable abbrev zfc (s1 : TValue) (s4 : Int) (s34 : Bool) (k : List Fr) (t : (Bool ⊕ Bool)) (x : Option Res) : Prop := match t with | .inl t => x = bk T (enF [.tmp 2] []) k ⟨[Z, .box [D.int .i64 s1.Kind, D.int .i64 s1.Num, D.str s1.Text, D.int .i64 s1.Ref], Z, Z, Z, Z, Z, Z, Z, Z, Z, Z, Z, Z, Z, Z, Z, Z, Z, Z, Z, Z, Z, Z, Z, Z, Z, Z, Z, Z, Z, Z, Z, Z, Z, Z, Z, Z, Z, Z, Z, Z, Z, Z, Z, .d (D.bool t), Z, Z, Z, Z, Z, Z, Z, Z, Z], []⟩ | .inr t => Pu (D.bool t) [] x
theorem zip (s1 : TValue) (s4 : Int) (s34 : Bool) (k : List Fr) : Le (zfc s1 s4 s34 k) (zbR s1 s4 s34) (zfb s1 s4 s34 k) := by
 unfold zbR zfb zrJ
 repeat' (try conv => arg 3; simp (maxSteps := 999999) only [sx, ty, ↓reduceIte, reduceCtorEq, Nat.reduceAdd, Nat.reduceSub, Nat.reduceLeDiff, Nat.reduceEqDiff, Nat.reduceLT, Nat.reduceMul, Nat.reduceBNe, List.reduceReplicate, Int.reduceLE, Int.reduceLT, Int.reduceEq, Int.reduceToNat, Int.reduceNeg, *]); first
  | (refine Le.call (zgk _ _ _ _) fun _ _ _ hy => ?_; obtain ⟨_, rfl⟩ := hy)
  | (refine Le.call (zkf _ _ _) fun _ _ _ hy => ?_; obtain ⟨_, rfl⟩ := hy)
  | (refine Le.via (zio _ _ _) fun t _ _ hy => ?_; rcases t with t | t <;> (try dsimp only [zfa] at hy; first | subst hy | obtain ⟨_, rfl⟩ := hy))
  | with_reducible refine Le.bool (fun _ => ?_) (fun _ => ?_)
  | ((with_reducible refine Le.ret ?_); first | exact rfl | exact Pu.mk)
  | with_reducible refine Le.itq (fun _ => ?_) (fun _ => ?_)
theorem zgX (p0 : TValue) : Le (fun r x => Pu (D.bool r) [] x) (zdk p0) (zab T 30 [D.agg [D.int .i64 p0.Kind, D.int .i64 p0.Num, D.str p0.Text, D.int .i64 p0.Ref]] []) := by
 unfold zdk
 refine Le.enter (g := v30) rfl rfl rfl rfl ?_
 repeat' (try conv => arg 3; simp (maxSteps := 999999) only [sx, ty, ↓reduceIte, reduceCtorEq, Nat.reduceAdd, Nat.reduceSub, Nat.reduceLeDiff, Nat.reduceEqDiff, Nat.reduceLT, Nat.reduceMul, Nat.reduceBNe, List.reduceReplicate, Int.reduceLE, Int.reduceLT, Int.reduceEq, Int.reduceToNat, Int.reduceNeg, *, v30, zwp]); first
  | (refine Le.call (zgk _ _ _ _) fun _ _ _ hy => ?_; obtain ⟨_, rfl⟩ := hy)
  | (refine Le.call (zkf _ _ _) fun _ _ _ hy => ?_; obtain ⟨_, rfl⟩ := hy)
  | (refine Le.via (zip _ _ _ _) fun t _ _ hy => ?_; rcases t with t | t <;> (try dsimp only [zfc] at hy; first | subst hy | obtain ⟨_, rfl⟩ := hy))
  | with_reducible refine Le.bool (fun _ => ?_) (fun _ => ?_)
  | ((with_reducible refine Le.ret ?_); first | exact rfl | exact Pu.mk)
  | with_reducible refine Le.itq (fun _ => ?_) (fun _ => ?_)
theorem zlh (p0 : TValue) : Le (fun r x => Pu (D.bool r) [] x) (zhK p0) (zab T 59 [D.agg [D.int .i64 p0.Kind, D.int .i64 p0.Num, D.str p0.Text, D.int .i64 p0.Ref]] []) := by
 unfold zhK
 refine Le.enter (g := v59) rfl rfl rfl rfl ?_
 try conv => arg 3; simp (maxSteps := 999999) only [sx, ty, ↓reduceIte, reduceCtorEq, Nat.reduceAdd, Nat.reduceSub, Nat.reduceLeDiff, Nat.reduceEqDiff, Nat.reduceLT, Nat.reduceMul, Nat.reduceBNe, List.reduceReplicate, Int.reduceLE, Int.reduceLT, Int.reduceEq, Int.reduceToNat, Int.reduceNeg, *, v59, zwJ]
 ((with_reducible refine Le.ret ?_); first | exact rfl | exact Pu.mk)
noncomputable abbrev zeH (s0 : List ByteArray) (s1 : ByteArray) (s5 : Int) (k : List Fr) : Option Res := go T (enF [.tmp 4] []) zlQ (.lp zlR :: .bl 0 :: .sq (.clr [4,5,6,7,8,9,10,11,12,13,14,15,16,17,18]) :: k) ⟨[.d (D.sl false 1 (List.map D.str s0)), .d (D.str s1), Z, Z, Z, .d (D.int .i64 s5), Z, Z, Z, Z, Z, Z, Z, Z, Z, Z, Z, Z, Z], []⟩
noncomputable abbrev zeI (s0 : List ByteArray) (s1 : ByteArray) (k : List Fr) (t : (Unit ⊕ Int)) (x : Option Res) : Prop := match t with | .inl t => x = bk T (enF [.tmp 4] []) k ⟨[.d (D.sl false 1 (List.map D.str s0)), .d (D.str s1), Z, Z, Z, Z, Z, Z, Z, Z, Z, Z, Z, Z, Z, Z, Z, Z, Z], []⟩ | .inr t => Pu (D.int .i64 t) [] x
theorem zno (s0 : List ByteArray) (s1 : ByteArray) : ∀ (s5 : Int) (k : List Fr), Le (zeI s0 s1 k) (zeX s0 s1 s5) (zeH s0 s1 s5 k) := by
 intro s5 k
 refine Le.cp (X := zeH s0 s1 s5) (Q := zeI s0 s1) ?_ k
 refine zeX.partial_correctness s0 s1 (motive := fun s5 r => ∀ k : List Fr, zeI s0 s1 k r (zeH s0 s1 s5 k)) ?_ s5
 intro rec hrec s5
 refine Le.pc ?_
 intro k
 unfold zeH zlQ
 repeat' (try conv => arg 3; simp (maxSteps := 999999) only [sx, ty, ↓reduceIte, reduceCtorEq, Nat.reduceAdd, Nat.reduceSub, Nat.reduceLeDiff, Nat.reduceEqDiff, Nat.reduceLT, Nat.reduceMul, Nat.reduceBNe, List.reduceReplicate, Int.reduceLE, Int.reduceLT, Int.reduceEq, Int.reduceToNat, Int.reduceNeg, *, zuc]); first
  | with_reducible refine Le.idx fun _ _ _ _ => ?_
  | ((with_reducible refine Le.ret ?_); first | exact rfl | exact Pu.mk)
  | with_reducible refine Le.itq (fun _ => ?_) (fun _ => ?_)
  | exact fun r hr => hrec _ r hr k
theorem zsi (p0 : List ByteArray) (p1 : ByteArray) : Le (fun r x => Pu (D.int .i64 r) [] x) (zke p0 p1) (zab T 135 [D.sl false 1 (List.map D.str p0), D.str p1] []) := by
 unfold zke
 refine Le.enter (g := v135) rfl rfl rfl rfl ?_
 repeat' (try conv => arg 3; simp (maxSteps := 999999) only [sx, ty, ↓reduceIte, reduceCtorEq, Nat.reduceAdd, Nat.reduceSub, Nat.reduceLeDiff, Nat.reduceEqDiff, Nat.reduceLT, Nat.reduceMul, Nat.reduceBNe, List.reduceReplicate, Int.reduceLE, Int.reduceLT, Int.reduceEq, Int.reduceToNat, Int.reduceNeg, *, zuc, v135, zud]); first
  | (refine Le.via (zno _ _ _ _) fun t _ _ hy => ?_; rcases t with t | t <;> (try dsimp only [zeI] at hy; first | subst hy | obtain ⟨_, rfl⟩ := hy))
  | ((with_reducible refine Le.ret ?_); first | exact rfl | exact Pu.mk)
noncomputable abbrev zdA (s0 : List ByteArray) (s3 : Int) (k : List Fr) : Option Res := go T (enF [.tmp 2] []) zlH (.lp zlI :: .bl 0 :: .sq (.clr [2,3,4,5,6,7,8,9,10,11,12,13,14,15,16,17,18,19,20,21,22,23,24,25]) :: k) ⟨[.d (D.sl false 1 (List.map D.str s0)), Z, Z, .d (D.int .i64 s3), Z, Z, Z, Z, Z, Z, Z, Z, Z, Z, Z, Z, Z, Z, Z, Z, Z, Z, Z, Z, Z, Z], []⟩
noncomputable abbrev zdB (s0 : List ByteArray) (k : List Fr) (t : (Unit ⊕ Bool)) (x : Option Res) : Prop := match t with | .inl t => x = bk T (enF [.tmp 2] []) k ⟨[.d (D.sl false 1 (List.map D.str s0)), Z, Z, Z, Z, Z, Z, Z, Z, Z, Z, Z, Z, Z, Z, Z, Z, Z, Z, Z, Z, Z, Z, Z, Z, Z], []⟩ | .inr t => Pu (D.bool t) [] x
theorem zkg (s0 : List ByteArray) : ∀ (s3 : Int) (k : List Fr), Le (zdB s0 k) (zeg s0 s3) (zdA s0 s3 k) := by
 intro s3 k
 refine Le.cp (X := zdA s0 s3) (Q := zdB s0) ?_ k
 refine zeg.partial_correctness s0 (motive := fun s3 r => ∀ k : List Fr, zdB s0 k r (zdA s0 s3 k)) ?_ s3
 intro rec hrec s3
 refine Le.pc ?_
 intro k
 unfold zdA zlH
 repeat' (try conv => arg 3; simp (maxSteps := 999999) only [sx, ty, ↓reduceIte, reduceCtorEq, Nat.reduceAdd, Nat.reduceSub, Nat.reduceLeDiff, Nat.reduceEqDiff, Nat.reduceLT, Nat.reduceMul, Nat.reduceBNe, List.reduceReplicate, Int.reduceLE, Int.reduceLT, Int.reduceEq, Int.reduceToNat, Int.reduceNeg, *, ztL]); first
  | (refine Le.call (zet _) fun _ _ _ hy => ?_; obtain ⟨_, rfl⟩ := hy)
  | (refine Le.call (zsi _ _) fun _ _ _ hy => ?_; obtain ⟨_, rfl⟩ := hy)
  | with_reducible refine Le.idx fun _ _ _ _ => ?_
  | with_reducible refine Le.bool (fun _ => ?_) (fun _ => ?_)
  | ((with_reducible refine Le.ret ?_); first | exact rfl | exact Pu.mk)
  | with_reducible refine Le.itq (fun _ => ?_) (fun _ => ?_)
  | exact fun r hr => hrec _ r hr k
theorem ziN (p0 : List ByteArray) : Le (fun r x => Pu (D.bool r) [] x) (zer p0) (zab T 113 [D.sl false 1 (List.map D.str p0)] []) := by
 unfold zer
 refine Le.enter (g := v113) rfl rfl rfl rfl ?_
 repeat' (try conv => arg 3; simp (maxSteps := 999999) only [sx, ty, ↓reduceIte, reduceCtorEq, Nat.reduceAdd, Nat.reduceSub, Nat.reduceLeDiff, Nat.reduceEqDiff, Nat.reduceLT, Nat.reduceMul, Nat.reduceBNe, List.reduceReplicate, Int.reduceLE, Int.reduceLT, Int.reduceEq, Int.reduceToNat, Int.reduceNeg, *, ztL, v113, ztM]); first
  | (refine Le.via (zkg _ _ _) fun t _ _ hy => ?_; rcases t with t | t <;> (try dsimp only [zdB] at hy; first | subst hy | obtain ⟨_, rfl⟩ := hy))
  | ((with_reducible refine Le.ret ?_); first | exact rfl | exact Pu.mk)
noncomputable abbrev zeJ (s1 : TFunction) (k : List Fr) : Option Res := go T (enF [.tmp 2] []) zrU k ⟨[Z, .box [D.str s1.Name, D.sl false 1 (List.map D.str s1.Params), D.sl false 1 (List.map D.str s1.Locals), D.str s1.Label], Z, Z, Z, Z, Z, Z, Z, Z, Z, Z, Z, Z, Z, Z, Z, Z, Z, Z, Z, Z, Z, Z, Z, Z, Z, Z, Z, Z, Z, Z, Z], []⟩
noncomputable abbrev zhO (s1 : TFunction) (k : List Fr) (t : Bool) (x : Option Res) : Prop := Pu (D.bool t) [] x
theorem zhP (s1 : TFunction) (k : List Fr) : Le (zhO s1 k) (zcZ s1) (zeJ s1 k) := by
 unfold zcZ zeJ zrU
 try conv => arg 3; simp (maxSteps := 999999) only [sx, ty, ↓reduceIte, reduceCtorEq, Nat.reduceAdd, Nat.reduceSub, Nat.reduceLeDiff, Nat.reduceEqDiff, Nat.reduceLT, Nat.reduceMul, Nat.reduceBNe, List.reduceReplicate, Int.reduceLE, Int.reduceLT, Int.reduceEq, Int.reduceToNat, Int.reduceNeg, *]
 refine Le.chk fun h => ?_
 try conv => arg 3; simp (maxSteps := 999999) only [sx, ty, ↓reduceIte, reduceCtorEq, Nat.reduceAdd, Nat.reduceSub, Nat.reduceLeDiff, Nat.reduceEqDiff, Nat.reduceLT, Nat.reduceMul, Nat.reduceBNe, List.reduceReplicate, Int.reduceLE, Int.reduceLT, Int.reduceEq, Int.reduceToNat, Int.reduceNeg, *]
 refine Le.app fun c31 h_1 h_2 => ?_
 replace h_1 : List.map D.str s1.Params ++ List.map D.str s1.Locals = List.map D.str c31 := by rw [h_1, List.map_append] <;> rfl
 replace h_2 : s1.Params.length + s1.Locals.length ≤ most := h_2
 repeat' (try conv => arg 3; simp (maxSteps := 999999) only [sx, ty, ↓reduceIte, reduceCtorEq, Nat.reduceAdd, Nat.reduceSub, Nat.reduceLeDiff, Nat.reduceEqDiff, Nat.reduceLT, Nat.reduceMul, Nat.reduceBNe, List.reduceReplicate, Int.reduceLE, Int.reduceLT, Int.reduceEq, Int.reduceToNat, Int.reduceNeg, *]); first
  | (refine Le.dcall (ziN _) fun _ _ _ hy => ?_; obtain ⟨_, rfl⟩ := hy)
  | ((with_reducible refine Le.ret ?_); first | exact rfl | exact Pu.mk)
theorem zkh (p0 : TFunction) : Le (fun r x => Pu (D.bool r) [] x) (zdv p0) (zab T 60 [D.agg [D.str p0.Name, D.sl false 1 (List.map D.str p0.Params), D.sl false 1 (List.map D.str p0.Locals), D.str p0.Label]] []) := by
 unfold zdv
 refine Le.enter (g := v60) rfl rfl rfl rfl ?_
 repeat' (try conv => arg 3; simp (maxSteps := 999999) only [sx, ty, ↓reduceIte, reduceCtorEq, Nat.reduceAdd, Nat.reduceSub, Nat.reduceLeDiff, Nat.reduceEqDiff, Nat.reduceLT, Nat.reduceMul, Nat.reduceBNe, List.reduceReplicate, Int.reduceLE, Int.reduceLT, Int.reduceEq, Int.reduceToNat, Int.reduceNeg, *, v60, zwK]); first
  | (refine Le.call (zet _) fun _ _ _ hy => ?_; obtain ⟨_, rfl⟩ := hy)
  | exact zhP _ _
  | with_reducible refine Le.bool (fun _ => ?_) (fun _ => ?_)
  | ((with_reducible refine Le.ret ?_); first | exact rfl | exact Pu.mk)
  | with_reducible refine Le.itq (fun _ => ?_) (fun _ => ?_)
theorem zoc (p0 : TRecordType) : Le (fun r x => Pu (D.bool r) [] x) (zgi p0) (zab T 61 [D.agg [D.str p0.Name, D.sl false 1 (List.map D.str p0.Fields)]] []) := by
 unfold zgi
 refine Le.enter (g := v61) rfl rfl rfl rfl ?_
 repeat' (try conv => arg 3; simp (maxSteps := 999999) only [sx, ty, ↓reduceIte, reduceCtorEq, Nat.reduceAdd, Nat.reduceSub, Nat.reduceLeDiff, Nat.reduceEqDiff, Nat.reduceLT, Nat.reduceMul, Nat.reduceBNe, List.reduceReplicate, Int.reduceLE, Int.reduceLT, Int.reduceEq, Int.reduceToNat, Int.reduceNeg, *, v61, zwL]); first
  | (refine Le.call (zet _) fun _ _ _ hy => ?_; obtain ⟨_, rfl⟩ := hy)
  | (refine Le.call (zkf _ _ _) fun _ _ _ hy => ?_; obtain ⟨_, rfl⟩ := hy)
  | (refine Le.call (ziN _) fun _ _ _ hy => ?_; obtain ⟨_, rfl⟩ := hy)
  | with_reducible refine Le.bool (fun _ => ?_) (fun _ => ?_)
  | ((with_reducible refine Le.ret ?_); first | exact rfl | exact Pu.mk)
noncomputable abbrev zcJ (s1 : TScope) (s3 : Int) (k : List Fr) : Option Res := go T (enF [.tmp 2] []) zoR (.lp zoS :: .bl 0 :: .sq (.clr [0,2,3,4,7,8,9,10,11,12,13,14,15,16,17,18,19,20,21,22,23,24,25,26,27,28,29,30,31,32,33,34,35,36,37,38,39,40,41,42,43,44,45,46,47,48,49,50,51,52,53,54,55,56,57,58,59,60,61,62,63,64,65]) :: k) ⟨[Z, .box [D.sl false 5 (List.map (TBinding.e false) s1.Vars), D.sl false 4 (List.map (TFunction.e false) s1.Functions), D.sl false 2 (List.map (TRecordType.e false) s1.Types)], Z, .d (D.int .i64 s3), Z, Z, Z, Z, Z, Z, Z, Z, Z, Z, Z, Z, Z, Z, Z, Z, Z, Z, Z, Z, Z, Z, Z, Z, Z, Z, Z, Z, Z, Z, Z, Z, Z, Z, Z, Z, Z, Z, Z, Z, Z, Z, Z, Z, Z, Z, Z, Z, Z, Z, Z, Z, Z, Z, Z, Z, Z, Z, Z, Z, Z, Z, Z, Z, Z, Z, Z, Z, Z, Z, Z, Z, Z, Z, Z, Z, Z, Z, Z, Z, Z, Z, Z, Z, Z, Z, Z, Z, Z, Z, Z, Z, Z, Z, Z, Z, Z, Z, Z, Z, Z, Z, Z, Z, Z, Z, Z, Z, Z, Z, Z, Z, Z, Z, Z, Z, Z, Z, Z, Z, Z, Z, Z, Z, Z, Z, Z, Z, Z, Z], []⟩
noncomputable abbrev zcK (s1 : TScope) (k : List Fr) (t : (Unit ⊕ Bool)) (x : Option Res) : Prop := match t with | .inl t => x = bk T (enF [.tmp 2] []) k ⟨[Z, .box [D.sl false 5 (List.map (TBinding.e false) s1.Vars), D.sl false 4 (List.map (TFunction.e false) s1.Functions), D.sl false 2 (List.map (TRecordType.e false) s1.Types)], Z, Z, Z, Z, Z, Z, Z, Z, Z, Z, Z, Z, Z, Z, Z, Z, Z, Z, Z, Z, Z, Z, Z, Z, Z, Z, Z, Z, Z, Z, Z, Z, Z, Z, Z, Z, Z, Z, Z, Z, Z, Z, Z, Z, Z, Z, Z, Z, Z, Z, Z, Z, Z, Z, Z, Z, Z, Z, Z, Z, Z, Z, Z, Z, Z, Z, Z, Z, Z, Z, Z, Z, Z, Z, Z, Z, Z, Z, Z, Z, Z, Z, Z, Z, Z, Z, Z, Z, Z, Z, Z, Z, Z, Z, Z, Z, Z, Z, Z, Z, Z, Z, Z, Z, Z, Z, Z, Z, Z, Z, Z, Z, Z, Z, Z, Z, Z, Z, Z, Z, Z, Z, Z, Z, Z, Z, Z, Z, Z, Z, Z, Z], []⟩ | .inr t => Pu (D.bool t) [] x
theorem ziq (s1 : TScope) : ∀ (s3 : Int) (k : List Fr), Le (zcK s1 k) (zbS s1 s3) (zcJ s1 s3 k) := by
 intro s3 k
 refine Le.cp (X := zcJ s1 s3) (Q := zcK s1) ?_ k
 refine zbS.partial_correctness s1 (motive := fun s3 r => ∀ k : List Fr, zcK s1 k r (zcJ s1 s3 k)) ?_ s3
 intro rec hrec s3
 refine Le.pc ?_
 intro k
 unfold zcJ zoR
 repeat' (try conv => arg 3; simp (maxSteps := 999999) only [sx, ty, ↓reduceIte, reduceCtorEq, Nat.reduceAdd, Nat.reduceSub, Nat.reduceLeDiff, Nat.reduceEqDiff, Nat.reduceLT, Nat.reduceMul, Nat.reduceBNe, List.reduceReplicate, Int.reduceLE, Int.reduceLT, Int.reduceEq, Int.reduceToNat, Int.reduceNeg, *, zrE, zrF, zrG]); first
  | (refine Le.dcall (zet _) fun _ _ _ hy => ?_; obtain ⟨_, rfl⟩ := hy)
  | (refine Le.dcall (zgX _) fun _ _ _ hy => ?_; obtain ⟨_, rfl⟩ := hy)
  | (refine Le.dcall (zlh _) fun _ _ _ hy => ?_; obtain ⟨_, rfl⟩ := hy)
  | with_reducible refine Le.idx fun _ _ _ _ => ?_
  | with_reducible refine Le.bool (fun _ => ?_) (fun _ => ?_)
  | ((with_reducible refine Le.ret ?_); first | exact rfl | exact Pu.mk)
  | with_reducible refine Le.itq (fun _ => ?_) (fun _ => ?_)
  | exact fun r hr => hrec _ r hr k
noncomputable abbrev zcL (s1 : TScope) (s5 : Int) (k : List Fr) : Option Res := go T (enF [.tmp 2] []) zoT (.lp zoU :: .bl 2 :: .sq (.clr [0,2,3,4,5,7,8,9,10,11,12,13,14,15,16,17,18,19,20,21,22,23,24,25,26,27,28,29,30,31,32,33,34,35,36,37,38,39,40,41,42,43,44,45,46,47,48,49,50,51,52,53,54,55,56,57,58,59,60,61,62,63,64,65,66,67,68,69,70,71,72,73,74,75,76,77,78,79,80,81,82,83,84,85,86,87,88,89,90,91,92,93,94,95,96,97,98,99]) :: k) ⟨[Z, .box [D.sl false 5 (List.map (TBinding.e false) s1.Vars), D.sl false 4 (List.map (TFunction.e false) s1.Functions), D.sl false 2 (List.map (TRecordType.e false) s1.Types)], Z, Z, Z, .d (D.int .i64 s5), Z, Z, Z, Z, Z, Z, Z, Z, Z, Z, Z, Z, Z, Z, Z, Z, Z, Z, Z, Z, Z, Z, Z, Z, Z, Z, Z, Z, Z, Z, Z, Z, Z, Z, Z, Z, Z, Z, Z, Z, Z, Z, Z, Z, Z, Z, Z, Z, Z, Z, Z, Z, Z, Z, Z, Z, Z, Z, Z, Z, Z, Z, Z, Z, Z, Z, Z, Z, Z, Z, Z, Z, Z, Z, Z, Z, Z, Z, Z, Z, Z, Z, Z, Z, Z, Z, Z, Z, Z, Z, Z, Z, Z, Z, Z, Z, Z, Z, Z, Z, Z, Z, Z, Z, Z, Z, Z, Z, Z, Z, Z, Z, Z, Z, Z, Z, Z, Z, Z, Z, Z, Z, Z, Z, Z, Z, Z, Z], []⟩
noncomputable abbrev zcM (s1 : TScope) (k : List Fr) (t : (Unit ⊕ Bool)) (x : Option Res) : Prop := match t with | .inl t => x = bk T (enF [.tmp 2] []) k ⟨[Z, .box [D.sl false 5 (List.map (TBinding.e false) s1.Vars), D.sl false 4 (List.map (TFunction.e false) s1.Functions), D.sl false 2 (List.map (TRecordType.e false) s1.Types)], Z, Z, Z, Z, Z, Z, Z, Z, Z, Z, Z, Z, Z, Z, Z, Z, Z, Z, Z, Z, Z, Z, Z, Z, Z, Z, Z, Z, Z, Z, Z, Z, Z, Z, Z, Z, Z, Z, Z, Z, Z, Z, Z, Z, Z, Z, Z, Z, Z, Z, Z, Z, Z, Z, Z, Z, Z, Z, Z, Z, Z, Z, Z, Z, Z, Z, Z, Z, Z, Z, Z, Z, Z, Z, Z, Z, Z, Z, Z, Z, Z, Z, Z, Z, Z, Z, Z, Z, Z, Z, Z, Z, Z, Z, Z, Z, Z, Z, Z, Z, Z, Z, Z, Z, Z, Z, Z, Z, Z, Z, Z, Z, Z, Z, Z, Z, Z, Z, Z, Z, Z, Z, Z, Z, Z, Z, Z, Z, Z, Z, Z, Z], []⟩ | .inr t => Pu (D.bool t) [] x
theorem zir (s1 : TScope) : ∀ (s5 : Int) (k : List Fr), Le (zcM s1 k) (zbT s1 s5) (zcL s1 s5 k) := by
 intro s5 k
 refine Le.cp (X := zcL s1 s5) (Q := zcM s1) ?_ k
 refine zbT.partial_correctness s1 (motive := fun s5 r => ∀ k : List Fr, zcM s1 k r (zcL s1 s5 k)) ?_ s5
 intro rec hrec s5
 refine Le.pc ?_
 intro k
 unfold zcL zoT
 repeat' (try conv => arg 3; simp (maxSteps := 999999) only [sx, ty, ↓reduceIte, reduceCtorEq, Nat.reduceAdd, Nat.reduceSub, Nat.reduceLeDiff, Nat.reduceEqDiff, Nat.reduceLT, Nat.reduceMul, Nat.reduceBNe, List.reduceReplicate, Int.reduceLE, Int.reduceLT, Int.reduceEq, Int.reduceToNat, Int.reduceNeg, *, zrE, zrF, zrG]); first
  | (refine Le.dcall (zkh _) fun _ _ _ hy => ?_; obtain ⟨_, rfl⟩ := hy)
  | with_reducible refine Le.idx fun _ _ _ _ => ?_
  | with_reducible refine Le.bool (fun _ => ?_) (fun _ => ?_)
  | ((with_reducible refine Le.ret ?_); first | exact rfl | exact Pu.mk)
  | with_reducible refine Le.itq (fun _ => ?_) (fun _ => ?_)
  | exact fun r hr => hrec _ r hr k
noncomputable abbrev zcN (s1 : TScope) (s6 : Int) (k : List Fr) : Option Res := go T (enF [.tmp 2] []) zoV (.lp zoW :: .bl 4 :: .sq (.clr [0,1,2,3,4,5,6,7,8,9,10,11,12,13,14,15,16,17,18,19,20,21,22,23,24,25,26,27,28,29,30,31,32,33,34,35,36,37,38,39,40,41,42,43,44,45,46,47,48,49,50,51,52,53,54,55,56,57,58,59,60,61,62,63,64,65,66,67,68,69,70,71,72,73,74,75,76,77,78,79,80,81,82,83,84,85,86,87,88,89,90,91,92,93,94,95,96,97,98,99,100,101,102,103,104,105,106,107,108,109,110,111,112,113,114,115,116,117,118,119,120,121,122,123,124,125,126,127,128,129,130,131,132,133]) :: k) ⟨[Z, .box [D.sl false 5 (List.map (TBinding.e false) s1.Vars), D.sl false 4 (List.map (TFunction.e false) s1.Functions), D.sl false 2 (List.map (TRecordType.e false) s1.Types)], Z, Z, Z, Z, .d (D.int .i64 s6), Z, Z, Z, Z, Z, Z, Z, Z, Z, Z, Z, Z, Z, Z, Z, Z, Z, Z, Z, Z, Z, Z, Z, Z, Z, Z, Z, Z, Z, Z, Z, Z, Z, Z, Z, Z, Z, Z, Z, Z, Z, Z, Z, Z, Z, Z, Z, Z, Z, Z, Z, Z, Z, Z, Z, Z, Z, Z, Z, Z, Z, Z, Z, Z, Z, Z, Z, Z, Z, Z, Z, Z, Z, Z, Z, Z, Z, Z, Z, Z, Z, Z, Z, Z, Z, Z, Z, Z, Z, Z, Z, Z, Z, Z, Z, Z, Z, Z, Z, Z, Z, Z, Z, Z, Z, Z, Z, Z, Z, Z, Z, Z, Z, Z, Z, Z, Z, Z, Z, Z, Z, Z, Z, Z, Z, Z, Z], []⟩
noncomputable abbrev zcO (s1 : TScope) (k : List Fr) (t : (Unit ⊕ Bool)) (x : Option Res) : Prop := match t with | .inl t => x = bk T (enF [.tmp 2] []) k ⟨[Z, Z, Z, Z, Z, Z, Z, Z, Z, Z, Z, Z, Z, Z, Z, Z, Z, Z, Z, Z, Z, Z, Z, Z, Z, Z, Z, Z, Z, Z, Z, Z, Z, Z, Z, Z, Z, Z, Z, Z, Z, Z, Z, Z, Z, Z, Z, Z, Z, Z, Z, Z, Z, Z, Z, Z, Z, Z, Z, Z, Z, Z, Z, Z, Z, Z, Z, Z, Z, Z, Z, Z, Z, Z, Z, Z, Z, Z, Z, Z, Z, Z, Z, Z, Z, Z, Z, Z, Z, Z, Z, Z, Z, Z, Z, Z, Z, Z, Z, Z, Z, Z, Z, Z, Z, Z, Z, Z, Z, Z, Z, Z, Z, Z, Z, Z, Z, Z, Z, Z, Z, Z, Z, Z, Z, Z, Z, Z, Z, Z, Z, Z, Z, Z], []⟩ | .inr t => Pu (D.bool t) [] x
theorem zis (s1 : TScope) : ∀ (s6 : Int) (k : List Fr), Le (zcO s1 k) (zbU s1 s6) (zcN s1 s6 k) := by
 intro s6 k
 refine Le.cp (X := zcN s1 s6) (Q := zcO s1) ?_ k
 refine zbU.partial_correctness s1 (motive := fun s6 r => ∀ k : List Fr, zcO s1 k r (zcN s1 s6 k)) ?_ s6
 intro rec hrec s6
 refine Le.pc ?_
 intro k
 unfold zcN zoV
 repeat' (try conv => arg 3; simp (maxSteps := 999999) only [sx, ty, ↓reduceIte, reduceCtorEq, Nat.reduceAdd, Nat.reduceSub, Nat.reduceLeDiff, Nat.reduceEqDiff, Nat.reduceLT, Nat.reduceMul, Nat.reduceBNe, List.reduceReplicate, Int.reduceLE, Int.reduceLT, Int.reduceEq, Int.reduceToNat, Int.reduceNeg, *, zrE, zrF, zrG]); first
  | (refine Le.dcall (zoc _) fun _ _ _ hy => ?_; obtain ⟨_, rfl⟩ := hy)
  | with_reducible refine Le.idx fun _ _ _ _ => ?_
  | with_reducible refine Le.bool (fun _ => ?_) (fun _ => ?_)
  | ((with_reducible refine Le.ret ?_); first | exact rfl | exact Pu.mk)
  | with_reducible refine Le.itq (fun _ => ?_) (fun _ => ?_)
  | exact fun r hr => hrec _ r hr k
noncomputable abbrev zfd (s1 : TScope) (k : List Fr) : Option Res := go T (enF [.tmp 2] []) zrH k ⟨[Z, .box [D.sl false 5 (List.map (TBinding.e false) s1.Vars), D.sl false 4 (List.map (TFunction.e false) s1.Functions), D.sl false 2 (List.map (TRecordType.e false) s1.Types)], Z, Z, Z, Z, Z, Z, Z, Z, Z, Z, Z, Z, Z, Z, Z, Z, Z, Z, Z, Z, Z, Z, Z, Z, Z, Z, Z, Z, Z, Z, Z, Z, Z, Z, Z, Z, Z, Z, Z, Z, Z, Z, Z, Z, Z, Z, Z, Z, Z, Z, Z, Z, Z, Z, Z, Z, Z, Z, Z, Z, Z, Z, Z, Z, Z, Z, Z, Z, Z, Z, Z, Z, Z, Z, Z, Z, Z, Z, Z, Z, Z, Z, Z, Z, Z, Z, Z, Z, Z, Z, Z, Z, Z, Z, Z, Z, Z, Z, Z, Z, Z, Z, Z, Z, Z, Z, Z, Z, Z, Z, Z, Z, Z, Z, Z, Z, Z, Z, Z, Z, Z, Z, Z, Z, Z, Z, Z, Z, Z, Z, Z, Z], []⟩
noncomputable abbrev zit (s1 : TScope) (k : List Fr) (t : Bool) (x : Option Res) : Prop := Pu (D.bool t) [] x
theorem ziu (s1 : TScope) (k : List Fr) : Le (zit s1 k) (zdw s1) (zfd s1 k) := by
 unfold zdw zfd zrH
 repeat' (try conv => arg 3; simp (maxSteps := 999999) only [sx, ty, ↓reduceIte, reduceCtorEq, Nat.reduceAdd, Nat.reduceSub, Nat.reduceLeDiff, Nat.reduceEqDiff, Nat.reduceLT, Nat.reduceMul, Nat.reduceBNe, List.reduceReplicate, Int.reduceLE, Int.reduceLT, Int.reduceEq, Int.reduceToNat, Int.reduceNeg, *, zrE, zrF, zrG]); first
  | (refine Le.via (ziq _ _ _) fun t _ _ hy => ?_; rcases t with t | t <;> (try dsimp only [zcK] at hy; first | subst hy | obtain ⟨_, rfl⟩ := hy))
  | (refine Le.via (zir _ _ _) fun t _ _ hy => ?_; rcases t with t | t <;> (try dsimp only [zcM] at hy; first | subst hy | obtain ⟨_, rfl⟩ := hy))
  | (refine Le.via (zis _ _ _) fun t _ _ hy => ?_; rcases t with t | t <;> (try dsimp only [zcO] at hy; first | subst hy | obtain ⟨_, rfl⟩ := hy))
  | ((with_reducible refine Le.ret ?_); first | exact rfl | exact Pu.mk)
theorem zgY (p0 : TScope) : Le (fun r x => Pu (D.bool r) [] x) (zdl p0) (zab T 24 [D.agg [D.sl false 5 (List.map (TBinding.e false) p0.Vars), D.sl false 4 (List.map (TFunction.e false) p0.Functions), D.sl false 2 (List.map (TRecordType.e false) p0.Types)]] []) := by
 unfold zdl
 refine Le.enter (g := v24) rfl rfl rfl rfl ?_
 repeat' (try conv => arg 3; simp (maxSteps := 999999) only [sx, ty, ↓reduceIte, reduceCtorEq, Nat.reduceAdd, Nat.reduceSub, Nat.reduceLeDiff, Nat.reduceEqDiff, Nat.reduceLT, Nat.reduceMul, Nat.reduceBNe, List.reduceReplicate, Int.reduceLE, Int.reduceLT, Int.reduceEq, Int.reduceToNat, Int.reduceNeg, *, zrE, zrF, zrG, v24, zwl]); first
  | exact ziu _ _
  | ((with_reducible refine Le.ret ?_); first | exact rfl | exact Pu.mk)
  | with_reducible refine Le.itq (fun _ => ?_) (fun _ => ?_)
theorem zhQ (p0 : TFunction) : Le (fun r x => Pu (D.agg [D.str r.Name, D.sl true 1 (List.map D.str r.Params), D.sl true 1 (List.map D.str r.Locals), D.str r.Label]) [] x) (zcn p0) (zab T 100 [D.agg [D.str p0.Name, D.sl false 1 (List.map D.str p0.Params), D.sl false 1 (List.map D.str p0.Locals), D.str p0.Label]] []) := by
 unfold zcn
 refine Le.enter (g := v100) rfl rfl rfl rfl ?_
 repeat' (try conv => arg 3; simp (maxSteps := 999999) only [sx, ty, ↓reduceIte, reduceCtorEq, Nat.reduceAdd, Nat.reduceSub, Nat.reduceLeDiff, Nat.reduceEqDiff, Nat.reduceLT, Nat.reduceMul, Nat.reduceBNe, List.reduceReplicate, Int.reduceLE, Int.reduceLT, Int.reduceEq, Int.reduceToNat, Int.reduceNeg, *, v100, ztH]); first
  | with_reducible refine Le.chk fun _ => ?_
  | ((with_reducible refine Le.ret ?_); first | exact rfl | exact Pu.mk)
theorem zkH (p0 : TRecordType) : Le (fun r x => Pu (D.agg [D.str r.Name, D.sl true 1 (List.map D.str r.Fields)]) [] x) (zdR p0) (zab T 101 [D.agg [D.str p0.Name, D.sl false 1 (List.map D.str p0.Fields)]] []) := by
 unfold zdR
 refine Le.enter (g := v101) rfl rfl rfl rfl ?_
 repeat' (try conv => arg 3; simp (maxSteps := 999999) only [sx, ty, ↓reduceIte, reduceCtorEq, Nat.reduceAdd, Nat.reduceSub, Nat.reduceLeDiff, Nat.reduceEqDiff, Nat.reduceLT, Nat.reduceMul, Nat.reduceBNe, List.reduceReplicate, Int.reduceLE, Int.reduceLT, Int.reduceEq, Int.reduceToNat, Int.reduceNeg, *, v101, ztI]); first
  | with_reducible refine Le.chk fun _ => ?_
  | ((with_reducible refine Le.ret ?_); first | exact rfl | exact Pu.mk)
noncomputable abbrev zeh (s1 : TScope) (s2 : TScope) (s3 : TScope) (s4 : Int) (k : List Fr) : Option Res := go T (enF [.cell 2 (.many 3)] []) zpo (.lp zpp :: .bl 0 :: .sq (.clr [0,4,6,7,8,9,10,11,12,13,14,15,16,17,18,19,20,21,22,23,24,25,26,27,28]) :: k) ⟨[Z, .box [D.sl false 5 (List.map (TBinding.e false) s1.Vars), D.sl false 4 (List.map (TFunction.e false) s1.Functions), D.sl false 2 (List.map (TRecordType.e false) s1.Types)], .box [D.sl true 5 (List.map (TBinding.e false) s2.Vars), D.sl true 4 (List.map (TFunction.e true) s2.Functions), D.sl true 2 (List.map (TRecordType.e true) s2.Types)], .box [D.sl true 5 (List.map (TBinding.e false) s3.Vars), D.sl true 4 (List.map (TFunction.e true) s3.Functions), D.sl true 2 (List.map (TRecordType.e true) s3.Types)], .d (D.int .i64 s4), Z, Z, Z, Z, Z, Z, Z, Z, Z, Z, Z, Z, Z, Z, Z, Z, Z, Z, Z, Z, Z, Z, Z, Z, Z, Z, Z, Z, Z, Z, Z, Z, Z, Z, Z, Z, Z, Z, Z, Z, Z, Z, Z], []⟩
noncomputable abbrev zei (s1 : TScope) (s2 : TScope) (k : List Fr) (t : TScope) (x : Option Res) : Prop := x = bk T (enF [.cell 2 (.many 3)] []) k ⟨[Z, .box [D.sl false 5 (List.map (TBinding.e false) s1.Vars), D.sl false 4 (List.map (TFunction.e false) s1.Functions), D.sl false 2 (List.map (TRecordType.e false) s1.Types)], .box [D.sl true 5 (List.map (TBinding.e false) s2.Vars), D.sl true 4 (List.map (TFunction.e true) s2.Functions), D.sl true 2 (List.map (TRecordType.e true) s2.Types)], .box [D.sl true 5 (List.map (TBinding.e false) t.Vars), D.sl true 4 (List.map (TFunction.e true) t.Functions), D.sl true 2 (List.map (TRecordType.e true) t.Types)], Z, Z, Z, Z, Z, Z, Z, Z, Z, Z, Z, Z, Z, Z, Z, Z, Z, Z, Z, Z, Z, Z, Z, Z, Z, Z, Z, Z, Z, Z, Z, Z, Z, Z, Z, Z, Z, Z, Z, Z, Z, Z, Z, Z], []⟩
theorem zmb (s1 : TScope) (s2 : TScope) : ∀ (s3 : TScope) (s4 : Int) (k : List Fr), Le (zei s1 s2 k) (zex s1 s2 s3 s4) (zeh s1 s2 s3 s4 k) := by
 intro s3 s4 k
 refine Le.cp (X := zeh s1 s2 s3 s4) (Q := zei s1 s2) ?_ k
 refine zex.partial_correctness s1 s2 (motive := fun s3 s4 r => ∀ k : List Fr, zei s1 s2 k r (zeh s1 s2 s3 s4 k)) ?_ s3 s4
 intro rec hrec s3 s4
 refine Le.pc ?_
 intro k
 unfold zeh zpo
 try conv => arg 3; simp (maxSteps := 999999) only [sx, ty, ↓reduceIte, reduceCtorEq, Nat.reduceAdd, Nat.reduceSub, Nat.reduceLeDiff, Nat.reduceEqDiff, Nat.reduceLT, Nat.reduceMul, Nat.reduceBNe, List.reduceReplicate, Int.reduceLE, Int.reduceLT, Int.reduceEq, Int.reduceToNat, Int.reduceNeg, *, zif, zig]
 refine Le.itq (fun h => ?_) (fun h => ?_)
 ·try conv => arg 3; simp (maxSteps := 999999) only [sx, ty, ↓reduceIte, reduceCtorEq, Nat.reduceAdd, Nat.reduceSub, Nat.reduceLeDiff, Nat.reduceEqDiff, Nat.reduceLT, Nat.reduceMul, Nat.reduceBNe, List.reduceReplicate, Int.reduceLE, Int.reduceLT, Int.reduceEq, Int.reduceToNat, Int.reduceNeg, *, zif, zig]
  refine Le.idx fun a23 h_1 h_2 h_3 => ?_
  try conv => arg 3; simp (maxSteps := 999999) only [sx, ty, ↓reduceIte, reduceCtorEq, Nat.reduceAdd, Nat.reduceSub, Nat.reduceLeDiff, Nat.reduceEqDiff, Nat.reduceLT, Nat.reduceMul, Nat.reduceBNe, List.reduceReplicate, Int.reduceLE, Int.reduceLT, Int.reduceEq, Int.reduceToNat, Int.reduceNeg, *, zif, zig]
  refine Le.dcall (zhQ a23) fun r25 h_4 _ hy => ?_
  obtain ⟨_, rfl⟩ := hy
  try conv => arg 3; simp (maxSteps := 999999) only [sx, ty, ↓reduceIte, reduceCtorEq, Nat.reduceAdd, Nat.reduceSub, Nat.reduceLeDiff, Nat.reduceEqDiff, Nat.reduceLT, Nat.reduceMul, Nat.reduceBNe, List.reduceReplicate, Int.reduceLE, Int.reduceLT, Int.reduceEq, Int.reduceToNat, Int.reduceNeg, *, zif, zig]
  refine Le.app fun c27 h_5 h_6 => ?_
  replace h_5 : List.map (TFunction.e true) s3.Functions ++ [D.agg [D.str r25.Name, D.sl true 1 (List.map D.str r25.Params), D.sl true 1 (List.map D.str r25.Locals), D.str r25.Label]] = List.map (TFunction.e true) c27 := by rw [h_5, List.map_append] <;> rfl
  replace h_6 : s3.Functions.length + 1 ≤ most := h_6
  try conv => arg 3; simp (maxSteps := 999999) only [sx, ty, ↓reduceIte, reduceCtorEq, Nat.reduceAdd, Nat.reduceSub, Nat.reduceLeDiff, Nat.reduceEqDiff, Nat.reduceLT, Nat.reduceMul, Nat.reduceBNe, List.reduceReplicate, Int.reduceLE, Int.reduceLT, Int.reduceEq, Int.reduceToNat, Int.reduceNeg, *, zif, zig]
  exact fun r hr => hrec _ _ r hr k
 ·try conv => arg 3; simp (maxSteps := 999999) only [sx, ty, ↓reduceIte, reduceCtorEq, Nat.reduceAdd, Nat.reduceSub, Nat.reduceLeDiff, Nat.reduceEqDiff, Nat.reduceLT, Nat.reduceMul, Nat.reduceBNe, List.reduceReplicate, Int.reduceLE, Int.reduceLT, Int.reduceEq, Int.reduceToNat, Int.reduceNeg, *, zif, zig]
  ((with_reducible refine Le.ret ?_); first | exact rfl | exact Pu.mk)
noncomputable abbrev zej (s1 : TScope) (s2 : TScope) (s3 : TScope) (s5 : Int) (k : List Fr) : Option Res := go T (enF [.cell 2 (.many 3)] []) zpq (.lp zpr :: .bl 2 :: .sq (.clr [0,1,4,5,6,7,8,9,10,11,12,13,14,15,16,17,18,19,20,21,22,23,24,25,26,27,28,29,30,31,32,33,34,35,36,37,38,39,40,41,42,43,44,45,46]) :: k) ⟨[Z, .box [D.sl false 5 (List.map (TBinding.e false) s1.Vars), D.sl false 4 (List.map (TFunction.e false) s1.Functions), D.sl false 2 (List.map (TRecordType.e false) s1.Types)], .box [D.sl true 5 (List.map (TBinding.e false) s2.Vars), D.sl true 4 (List.map (TFunction.e true) s2.Functions), D.sl true 2 (List.map (TRecordType.e true) s2.Types)], .box [D.sl true 5 (List.map (TBinding.e false) s3.Vars), D.sl true 4 (List.map (TFunction.e true) s3.Functions), D.sl true 2 (List.map (TRecordType.e true) s3.Types)], Z, .d (D.int .i64 s5), Z, Z, Z, Z, Z, Z, Z, Z, Z, Z, Z, Z, Z, Z, Z, Z, Z, Z, Z, Z, Z, Z, Z, Z, Z, Z, Z, Z, Z, Z, Z, Z, Z, Z, Z, Z, Z, Z, Z, Z, Z, Z], []⟩
noncomputable abbrev zek (s1 : TScope) (s2 : TScope) (k : List Fr) (t : TScope) (x : Option Res) : Prop := x = bk T (enF [.cell 2 (.many 3)] []) k ⟨[Z, Z, .box [D.sl true 5 (List.map (TBinding.e false) s2.Vars), D.sl true 4 (List.map (TFunction.e true) s2.Functions), D.sl true 2 (List.map (TRecordType.e true) s2.Types)], .box [D.sl true 5 (List.map (TBinding.e false) t.Vars), D.sl true 4 (List.map (TFunction.e true) t.Functions), D.sl true 2 (List.map (TRecordType.e true) t.Types)], Z, Z, Z, Z, Z, Z, Z, Z, Z, Z, Z, Z, Z, Z, Z, Z, Z, Z, Z, Z, Z, Z, Z, Z, Z, Z, Z, Z, Z, Z, Z, Z, Z, Z, Z, Z, Z, Z, Z, Z, Z, Z, Z, Z], []⟩
theorem zmc (s1 : TScope) (s2 : TScope) : ∀ (s3 : TScope) (s5 : Int) (k : List Fr), Le (zek s1 s2 k) (zey s1 s2 s3 s5) (zej s1 s2 s3 s5 k) := by
 intro s3 s5 k
 refine Le.cp (X := zej s1 s2 s3 s5) (Q := zek s1 s2) ?_ k
 refine zey.partial_correctness s1 s2 (motive := fun s3 s5 r => ∀ k : List Fr, zek s1 s2 k r (zej s1 s2 s3 s5 k)) ?_ s3 s5
 intro rec hrec s3 s5
 refine Le.pc ?_
 intro k
 unfold zej zpq
 try conv => arg 3; simp (maxSteps := 999999) only [sx, ty, ↓reduceIte, reduceCtorEq, Nat.reduceAdd, Nat.reduceSub, Nat.reduceLeDiff, Nat.reduceEqDiff, Nat.reduceLT, Nat.reduceMul, Nat.reduceBNe, List.reduceReplicate, Int.reduceLE, Int.reduceLT, Int.reduceEq, Int.reduceToNat, Int.reduceNeg, *, zif, zig]
 refine Le.itq (fun h => ?_) (fun h => ?_)
 ·try conv => arg 3; simp (maxSteps := 999999) only [sx, ty, ↓reduceIte, reduceCtorEq, Nat.reduceAdd, Nat.reduceSub, Nat.reduceLeDiff, Nat.reduceEqDiff, Nat.reduceLT, Nat.reduceMul, Nat.reduceBNe, List.reduceReplicate, Int.reduceLE, Int.reduceLT, Int.reduceEq, Int.reduceToNat, Int.reduceNeg, *, zif, zig]
  refine Le.idx fun a41 h_1 h_2 h_3 => ?_
  try conv => arg 3; simp (maxSteps := 999999) only [sx, ty, ↓reduceIte, reduceCtorEq, Nat.reduceAdd, Nat.reduceSub, Nat.reduceLeDiff, Nat.reduceEqDiff, Nat.reduceLT, Nat.reduceMul, Nat.reduceBNe, List.reduceReplicate, Int.reduceLE, Int.reduceLT, Int.reduceEq, Int.reduceToNat, Int.reduceNeg, *, zif, zig]
  refine Le.dcall (zkH a41) fun r43 h_4 _ hy => ?_
  obtain ⟨_, rfl⟩ := hy
  try conv => arg 3; simp (maxSteps := 999999) only [sx, ty, ↓reduceIte, reduceCtorEq, Nat.reduceAdd, Nat.reduceSub, Nat.reduceLeDiff, Nat.reduceEqDiff, Nat.reduceLT, Nat.reduceMul, Nat.reduceBNe, List.reduceReplicate, Int.reduceLE, Int.reduceLT, Int.reduceEq, Int.reduceToNat, Int.reduceNeg, *, zif, zig]
  refine Le.app fun c45 h_5 h_6 => ?_
  replace h_5 : List.map (TRecordType.e true) s3.Types ++ [D.agg [D.str r43.Name, D.sl true 1 (List.map D.str r43.Fields)]] = List.map (TRecordType.e true) c45 := by rw [h_5, List.map_append] <;> rfl
  replace h_6 : s3.Types.length + 1 ≤ most := h_6
  try conv => arg 3; simp (maxSteps := 999999) only [sx, ty, ↓reduceIte, reduceCtorEq, Nat.reduceAdd, Nat.reduceSub, Nat.reduceLeDiff, Nat.reduceEqDiff, Nat.reduceLT, Nat.reduceMul, Nat.reduceBNe, List.reduceReplicate, Int.reduceLE, Int.reduceLT, Int.reduceEq, Int.reduceToNat, Int.reduceNeg, *, zif, zig]
  exact fun r hr => hrec _ _ r hr k
 ·try conv => arg 3; simp (maxSteps := 999999) only [sx, ty, ↓reduceIte, reduceCtorEq, Nat.reduceAdd, Nat.reduceSub, Nat.reduceLeDiff, Nat.reduceEqDiff, Nat.reduceLT, Nat.reduceMul, Nat.reduceBNe, List.reduceReplicate, Int.reduceLE, Int.reduceLT, Int.reduceEq, Int.reduceToNat, Int.reduceNeg, *, zif, zig]
  ((with_reducible refine Le.ret ?_); first | exact rfl | exact Pu.mk)
theorem zli (p0 : TScope) : Le (fun r x => Pu (D.agg [D.sl true 5 (List.map (TBinding.e false) r.Vars), D.sl true 4 (List.map (TFunction.e true) r.Functions), D.sl true 2 (List.map (TRecordType.e true) r.Types)]) [] x) (zgF p0) (zab T 47 [D.agg [D.sl false 5 (List.map (TBinding.e false) p0.Vars), D.sl false 4 (List.map (TFunction.e false) p0.Functions), D.sl false 2 (List.map (TRecordType.e false) p0.Types)]] []) := by
 unfold zgF
 refine Le.enter (g := v47) rfl rfl rfl rfl ?_
 repeat' (try conv => arg 3; simp (maxSteps := 999999) only [sx, ty, ↓reduceIte, reduceCtorEq, Nat.reduceAdd, Nat.reduceSub, Nat.reduceLeDiff, Nat.reduceEqDiff, Nat.reduceLT, Nat.reduceMul, Nat.reduceBNe, List.reduceReplicate, Int.reduceLE, Int.reduceLT, Int.reduceEq, Int.reduceToNat, Int.reduceNeg, *, zif, zig, v47, zwF]); first
  | (refine Le.via (zmb _ _ _ _ _) fun _ _ _ hy => ?_; try dsimp only [zei] at hy; first | subst hy | obtain ⟨_, rfl⟩ := hy)
  | (refine Le.via (zmc _ _ _ _ _) fun _ _ _ hy => ?_; try dsimp only [zek] at hy; first | subst hy | obtain ⟨_, rfl⟩ := hy)
  | with_reducible refine Le.chk fun _ => ?_
  | ((with_reducible refine Le.ret ?_); first | exact rfl | exact Pu.mk)
noncomputable abbrev zfH (s1 : ByteArray) (s3 : TScope) (s5 : TValue) (s6 : TScope) (s8 : TScope) (s9 : List TBinding) (s10 : Int) (k : List Fr) : Option Res := go T (enF [.cell 6 (.many 3), .tmp 7] []) zrK k ⟨[Z, .d (D.str s1), Z, .box [D.sl false 5 (List.map (TBinding.e false) s3.Vars), D.sl false 4 (List.map (TFunction.e false) s3.Functions), D.sl false 2 (List.map (TRecordType.e false) s3.Types)], Z, .box [D.int .i64 s5.Kind, D.int .i64 s5.Num, D.str s5.Text, D.int .i64 s5.Ref], .box [D.sl true 5 (List.map (TBinding.e false) s6.Vars), D.sl true 4 (List.map (TFunction.e true) s6.Functions), D.sl true 2 (List.map (TRecordType.e true) s6.Types)], Z, .box [D.sl true 5 (List.map (TBinding.e false) s8.Vars), D.sl true 4 (List.map (TFunction.e true) s8.Functions), D.sl true 2 (List.map (TRecordType.e true) s8.Types)], .d (D.sl true 5 (List.map (TBinding.e false) s9)), .d (D.int .i64 s10), Z, Z, Z, Z, Z, Z, Z, Z, Z, Z, Z, Z, Z, Z, Z, Z, Z, Z, Z, Z, Z, Z, Z, Z, Z, Z, Z, Z, Z, Z, Z, Z, Z, Z, Z, Z, Z, Z, Z, Z, Z, Z, Z, Z, Z, Z, Z, Z, Z, Z, Z, Z, Z, Z, Z, Z, Z, Z, Z, Z, Z, Z, Z, Z, Z, Z, Z], []⟩
noncomputable abbrev zfI (s1 : ByteArray) (s3 : TScope) (s5 : TValue) (s6 : TScope) (s8 : TScope) (s9 : List TBinding) (s10 : Int) (k : List Fr) (t : ((List TBinding) × Int × (List TBinding) × ByteArray × Int × Int × ByteArray × Int × TBinding × (List TBinding) × Int)) (x : Option Res) : Prop := x = bk T (enF [.cell 6 (.many 3), .tmp 7] []) k ⟨[Z, .d (D.str s1), Z, .box [D.sl false 5 (List.map (TBinding.e false) s3.Vars), D.sl false 4 (List.map (TFunction.e false) s3.Functions), D.sl false 2 (List.map (TRecordType.e false) s3.Types)], Z, .box [D.int .i64 s5.Kind, D.int .i64 s5.Num, D.str s5.Text, D.int .i64 s5.Ref], .box [D.sl true 5 (List.map (TBinding.e false) s6.Vars), D.sl true 4 (List.map (TFunction.e true) s6.Functions), D.sl true 2 (List.map (TRecordType.e true) s6.Types)], Z, .box [D.sl true 5 (List.map (TBinding.e false) s8.Vars), D.sl true 4 (List.map (TFunction.e true) s8.Functions), D.sl true 2 (List.map (TRecordType.e true) s8.Types)], .d (D.sl true 5 (List.map (TBinding.e false) t.1)), .d (D.int .i64 t.2.1), Z, Z, Z, Z, Z, Z, Z, Z, Z, Z, Z, Z, Z, Z, Z, Z, Z, Z, Z, .ptr ⟨.slot 3, [], 0⟩, .d (D.sl false 5 (List.map (TBinding.e false) t.2.2.1)), .d (D.int .i64 s10), .d (D.pim [D.str t.2.2.2.1, D.int .i64 t.2.2.2.2.1, D.int .i64 t.2.2.2.2.2.1, D.str t.2.2.2.2.2.2.1, D.int .i64 t.2.2.2.2.2.2.2.1] 0), .d (D.agg [D.str t.2.2.2.2.2.2.2.2.1.Name, D.int .i64 t.2.2.2.2.2.2.2.2.1.Value.Kind, D.int .i64 t.2.2.2.2.2.2.2.2.1.Value.Num, D.str t.2.2.2.2.2.2.2.2.1.Value.Text, D.int .i64 t.2.2.2.2.2.2.2.2.1.Value.Ref]), .d (D.sl true 5 (List.map (TBinding.e false) t.2.2.2.2.2.2.2.2.2.1)), Z, .d (D.int .i64 s10), .d (D.int .i64 t.2.2.2.2.2.2.2.2.2.2), Z, Z, Z, Z, Z, Z, Z, Z, Z, Z, Z, Z, Z, Z, Z, Z, Z, Z, Z, Z, Z, Z, Z, Z, Z, Z, Z, Z, Z, Z, Z, Z, Z, Z, Z, Z, Z, Z, Z], []⟩
theorem ziT (s1 : ByteArray) (s3 : TScope) (s5 : TValue) (s6 : TScope) (s8 : TScope) (s9 : List TBinding) (s10 : Int) (k : List Fr) : Le (zfI s1 s3 s5 s6 s8 s9 s10 k) (zdM s1 s3 s5 s6 s8 s9 s10) (zfH s1 s3 s5 s6 s8 s9 s10 k) := by
 unfold zdM zfH zrK
 try conv => arg 3; simp (maxSteps := 999999) only [sx, ty, ↓reduceIte, reduceCtorEq, Nat.reduceAdd, Nat.reduceSub, Nat.reduceLeDiff, Nat.reduceEqDiff, Nat.reduceLT, Nat.reduceMul, Nat.reduceBNe, List.reduceReplicate, Int.reduceLE, Int.reduceLT, Int.reduceEq, Int.reduceToNat, Int.reduceNeg, *, zhj]
 refine Le.idx fun a33 h h_1 h_2 => ?_
 try conv => arg 3; simp (maxSteps := 999999) only [sx, ty, ↓reduceIte, reduceCtorEq, Nat.reduceAdd, Nat.reduceSub, Nat.reduceLeDiff, Nat.reduceEqDiff, Nat.reduceLT, Nat.reduceMul, Nat.reduceBNe, List.reduceReplicate, Int.reduceLE, Int.reduceLT, Int.reduceEq, Int.reduceToNat, Int.reduceNeg, *, zhj]
 refine Le.app fun c36 h_3 h_4 => ?_
 replace h_3 : List.map (TBinding.e false) s9 ++ [D.agg [D.str a33.Name, D.int .i64 a33.Value.Kind, D.int .i64 a33.Value.Num, D.str a33.Value.Text, D.int .i64 a33.Value.Ref]] = List.map (TBinding.e false) c36 := by rw [h_3, List.map_append] <;> rfl
 replace h_4 : s9.length + 1 ≤ most := h_4
 try conv => arg 3; simp (maxSteps := 999999) only [sx, ty, ↓reduceIte, reduceCtorEq, Nat.reduceAdd, Nat.reduceSub, Nat.reduceLeDiff, Nat.reduceEqDiff, Nat.reduceLT, Nat.reduceMul, Nat.reduceBNe, List.reduceReplicate, Int.reduceLE, Int.reduceLT, Int.reduceEq, Int.reduceToNat, Int.reduceNeg, *, zhj]
 ((with_reducible refine Le.ret ?_); first | exact rfl | exact Pu.mk)
noncomputable abbrev zdd (s1 : ByteArray) (s3 : TScope) (s5 : TValue) (s6 : TScope) (s8 : TScope) (s9 : List TBinding) (s10 : Int) (k : List Fr) : Option Res := go T (enF [.cell 6 (.many 3), .tmp 7] []) zoZ (.lp zpa :: .bl 0 :: .sq (.clr [0,2,7,11,12,13,14,15,16,17,18,19,20,21,22,23,24,25,26,27,28,29,30,31,32,33,34,35,36,37,38]) :: k) ⟨[Z, .d (D.str s1), Z, .box [D.sl false 5 (List.map (TBinding.e false) s3.Vars), D.sl false 4 (List.map (TFunction.e false) s3.Functions), D.sl false 2 (List.map (TRecordType.e false) s3.Types)], Z, .box [D.int .i64 s5.Kind, D.int .i64 s5.Num, D.str s5.Text, D.int .i64 s5.Ref], .box [D.sl true 5 (List.map (TBinding.e false) s6.Vars), D.sl true 4 (List.map (TFunction.e true) s6.Functions), D.sl true 2 (List.map (TRecordType.e true) s6.Types)], Z, .box [D.sl true 5 (List.map (TBinding.e false) s8.Vars), D.sl true 4 (List.map (TFunction.e true) s8.Functions), D.sl true 2 (List.map (TRecordType.e true) s8.Types)], .d (D.sl true 5 (List.map (TBinding.e false) s9)), .d (D.int .i64 s10), Z, Z, Z, Z, Z, Z, Z, Z, Z, Z, Z, Z, Z, Z, Z, Z, Z, Z, Z, Z, Z, Z, Z, Z, Z, Z, Z, Z, Z, Z, Z, Z, Z, Z, Z, Z, Z, Z, Z, Z, Z, Z, Z, Z, Z, Z, Z, Z, Z, Z, Z, Z, Z, Z, Z, Z, Z, Z, Z, Z, Z, Z, Z, Z, Z, Z, Z], []⟩
noncomputable abbrev zde (s1 : ByteArray) (s3 : TScope) (s5 : TValue) (s6 : TScope) (s8 : TScope) (k : List Fr) (t : ((List TBinding) × Int)) (x : Option Res) : Prop := x = bk T (enF [.cell 6 (.many 3), .tmp 7] []) k ⟨[Z, .d (D.str s1), Z, .box [D.sl false 5 (List.map (TBinding.e false) s3.Vars), D.sl false 4 (List.map (TFunction.e false) s3.Functions), D.sl false 2 (List.map (TRecordType.e false) s3.Types)], Z, .box [D.int .i64 s5.Kind, D.int .i64 s5.Num, D.str s5.Text, D.int .i64 s5.Ref], .box [D.sl true 5 (List.map (TBinding.e false) s6.Vars), D.sl true 4 (List.map (TFunction.e true) s6.Functions), D.sl true 2 (List.map (TRecordType.e true) s6.Types)], Z, .box [D.sl true 5 (List.map (TBinding.e false) s8.Vars), D.sl true 4 (List.map (TFunction.e true) s8.Functions), D.sl true 2 (List.map (TRecordType.e true) s8.Types)], .d (D.sl true 5 (List.map (TBinding.e false) t.1)), .d (D.int .i64 t.2), Z, Z, Z, Z, Z, Z, Z, Z, Z, Z, Z, Z, Z, Z, Z, Z, Z, Z, Z, Z, Z, Z, Z, Z, Z, Z, Z, Z, Z, Z, Z, Z, Z, Z, Z, Z, Z, Z, Z, Z, Z, Z, Z, Z, Z, Z, Z, Z, Z, Z, Z, Z, Z, Z, Z, Z, Z, Z, Z, Z, Z, Z, Z, Z, Z, Z, Z], []⟩
theorem ziU (s1 : ByteArray) (s3 : TScope) (s5 : TValue) (s6 : TScope) (s8 : TScope) : ∀ (s9 : List TBinding) (s10 : Int) (k : List Fr), Le (zde s1 s3 s5 s6 s8 k) (zcV s1 s3 s5 s6 s8 s9 s10) (zdd s1 s3 s5 s6 s8 s9 s10 k) := by
 intro s9 s10 k
 refine Le.cp (X := zdd s1 s3 s5 s6 s8 s9 s10) (Q := zde s1 s3 s5 s6 s8) ?_ k
 refine zcV.partial_correctness s1 s3 s5 s6 s8 (motive := fun s9 s10 r => ∀ k : List Fr, zde s1 s3 s5 s6 s8 k r (zdd s1 s3 s5 s6 s8 s9 s10 k)) ?_ s9 s10
 intro rec hrec s9 s10
 refine Le.pc ?_
 intro k
 unfold zdd zoZ
 repeat' (try conv => arg 3; simp (maxSteps := 999999) only [sx, ty, ↓reduceIte, reduceCtorEq, Nat.reduceAdd, Nat.reduceSub, Nat.reduceLeDiff, Nat.reduceEqDiff, Nat.reduceLT, Nat.reduceMul, Nat.reduceBNe, List.reduceReplicate, Int.reduceLE, Int.reduceLT, Int.reduceEq, Int.reduceToNat, Int.reduceNeg, *, zhj]); first
  | (refine Le.via (ziT _ _ _ _ _ _ _ _) fun _ _ _ hy => ?_; try dsimp only [zfI] at hy; first | subst hy | obtain ⟨_, rfl⟩ := hy)
  | with_reducible refine Le.idx fun _ _ _ _ => ?_
  | with_reducible refine Le.bool (fun _ => ?_) (fun _ => ?_)
  | ((with_reducible refine Le.ret ?_); first | exact rfl | exact Pu.mk)
  | with_reducible refine Le.itq (fun _ => ?_) (fun _ => ?_)
  | exact fun r hr => hrec _ _ r hr k
noncomputable abbrev zfJ (s1 : ByteArray) (s3 : TScope) (s6 : TScope) (s8 : TScope) (s9 : List TBinding) (s10 : Int) (k : List Fr) : Option Res := go T (enF [.cell 6 (.many 3), .tmp 7] []) zrL k ⟨[Z, .d (D.str s1), Z, .box [D.sl false 5 (List.map (TBinding.e false) s3.Vars), D.sl false 4 (List.map (TFunction.e false) s3.Functions), D.sl false 2 (List.map (TRecordType.e false) s3.Types)], Z, Z, .box [D.sl true 5 (List.map (TBinding.e false) s6.Vars), D.sl true 4 (List.map (TFunction.e true) s6.Functions), D.sl true 2 (List.map (TRecordType.e true) s6.Types)], Z, .box [D.sl true 5 (List.map (TBinding.e false) s8.Vars), D.sl true 4 (List.map (TFunction.e true) s8.Functions), D.sl true 2 (List.map (TRecordType.e true) s8.Types)], .d (D.sl true 5 (List.map (TBinding.e false) s9)), .d (D.int .i64 s10), Z, Z, Z, Z, Z, Z, Z, Z, Z, Z, Z, Z, Z, Z, Z, Z, Z, Z, Z, Z, Z, Z, Z, Z, Z, Z, Z, Z, Z, Z, Z, Z, Z, Z, Z, Z, Z, Z, Z, Z, Z, Z, Z, Z, Z, Z, Z, Z, Z, Z, Z, Z, Z, Z, Z, Z, Z, Z, Z, Z, Z, Z, Z, Z, Z, Z, Z], []⟩
noncomputable abbrev zfK (s1 : ByteArray) (s3 : TScope) (s6 : TScope) (s8 : TScope) (s9 : List TBinding) (s10 : Int) (k : List Fr) (t : (TScope × Int)) (x : Option Res) : Prop := Pu (D.tup [D.agg [D.sl true 5 (List.map (TBinding.e false) t.1.Vars), D.sl true 4 (List.map (TFunction.e true) t.1.Functions), D.sl true 2 (List.map (TRecordType.e true) t.1.Types)], D.int .i64 t.2]) [] x
theorem ziV (s1 : ByteArray) (s3 : TScope) (s6 : TScope) (s8 : TScope) (s9 : List TBinding) (s10 : Int) (k : List Fr) : Le (zfK s1 s3 s6 s8 s9 s10 k) (zbH s1 s3 s6 s8 s9 s10) (zfJ s1 s3 s6 s8 s9 s10 k) := by
 unfold zbH zfJ zrL
 try conv => arg 3; simp (maxSteps := 999999) only [sx, ty, ↓reduceIte, reduceCtorEq, Nat.reduceAdd, Nat.reduceSub, Nat.reduceLeDiff, Nat.reduceEqDiff, Nat.reduceLT, Nat.reduceMul, Nat.reduceBNe, List.reduceReplicate, Int.reduceLE, Int.reduceLT, Int.reduceEq, Int.reduceToNat, Int.reduceNeg, *, zhj]
 refine Le.subL fun c69 h h_1 h_2 => ?_
 replace h : List.take (s3.Vars.length - s10.toNat) (List.drop s10.toNat (List.map (TBinding.e false) s3.Vars)) = List.map (TBinding.e false) c69 := by rw [h]; exact zru ..
 try conv => arg 3; simp (maxSteps := 999999) only [sx, ty, ↓reduceIte, reduceCtorEq, Nat.reduceAdd, Nat.reduceSub, Nat.reduceLeDiff, Nat.reduceEqDiff, Nat.reduceLT, Nat.reduceMul, Nat.reduceBNe, List.reduceReplicate, Int.reduceLE, Int.reduceLT, Int.reduceEq, Int.reduceToNat, Int.reduceNeg, *, zhj]
 refine Le.app fun c70 h_3 h_4 => ?_
 replace h_3 : List.map (TBinding.e false) s9 ++ List.map (TBinding.e false) c69 = List.map (TBinding.e false) c70 := by rw [h_3, List.map_append] <;> rfl
 replace h_4 : s9.length + c69.length ≤ most := h_4
 repeat' (try conv => arg 3; simp (maxSteps := 999999) only [sx, ty, ↓reduceIte, reduceCtorEq, Nat.reduceAdd, Nat.reduceSub, Nat.reduceLeDiff, Nat.reduceEqDiff, Nat.reduceLT, Nat.reduceMul, Nat.reduceBNe, List.reduceReplicate, Int.reduceLE, Int.reduceLT, Int.reduceEq, Int.reduceToNat, Int.reduceNeg, *, zhj]); first
  | ((with_reducible refine Le.ret ?_); first | exact rfl | exact Pu.mk)
  | with_reducible refine Le.itq (fun _ => ?_) (fun _ => ?_)
noncomputable abbrev zfL (s1 : ByteArray) (s3 : TScope) (s6 : TScope) (s8 : TScope) (s9 : List TBinding) (s10 : Int) (k : List Fr) : Option Res := go T (enF [.cell 6 (.many 3), .tmp 7] []) zrM k ⟨[Z, .d (D.str s1), Z, .box [D.sl false 5 (List.map (TBinding.e false) s3.Vars), D.sl false 4 (List.map (TFunction.e false) s3.Functions), D.sl false 2 (List.map (TRecordType.e false) s3.Types)], Z, Z, .box [D.sl true 5 (List.map (TBinding.e false) s6.Vars), D.sl true 4 (List.map (TFunction.e true) s6.Functions), D.sl true 2 (List.map (TRecordType.e true) s6.Types)], Z, .box [D.sl true 5 (List.map (TBinding.e false) s8.Vars), D.sl true 4 (List.map (TFunction.e true) s8.Functions), D.sl true 2 (List.map (TRecordType.e true) s8.Types)], .d (D.sl true 5 (List.map (TBinding.e false) s9)), .d (D.int .i64 s10), Z, Z, Z, Z, Z, Z, Z, Z, Z, Z, Z, Z, Z, Z, Z, Z, Z, Z, Z, Z, Z, Z, Z, Z, Z, Z, Z, Z, Z, Z, Z, Z, Z, Z, Z, Z, Z, Z, Z, Z, Z, Z, Z, Z, Z, Z, Z, Z, Z, Z, Z, Z, Z, Z, Z, Z, Z, Z, Z, Z, Z, Z, Z, Z, Z, Z, Z], []⟩
noncomputable abbrev ziW (s1 : ByteArray) (s3 : TScope) (s6 : TScope) (s8 : TScope) (s9 : List TBinding) (s10 : Int) (k : List Fr) (t : (TScope × Int)) (x : Option Res) : Prop := Pu (D.tup [D.agg [D.sl true 5 (List.map (TBinding.e false) t.1.Vars), D.sl true 4 (List.map (TFunction.e true) t.1.Functions), D.sl true 2 (List.map (TRecordType.e true) t.1.Types)], D.int .i64 t.2]) [] x
theorem zfM (s1 : ByteArray) (s3 : TScope) (s6 : TScope) (s8 : TScope) (s9 : List TBinding) (s10 : Int) (k : List Fr) : Le (ziW s1 s3 s6 s8 s9 s10 k) (zcr s1 s3 s6 s8 s9 s10) (zfL s1 s3 s6 s8 s9 s10 k) := by
 unfold zcr zfL zrM
 repeat' (try conv => arg 3; simp (maxSteps := 999999) only [sx, ty, ↓reduceIte, reduceCtorEq, Nat.reduceAdd, Nat.reduceSub, Nat.reduceLeDiff, Nat.reduceEqDiff, Nat.reduceLT, Nat.reduceMul, Nat.reduceBNe, List.reduceReplicate, Int.reduceLE, Int.reduceLT, Int.reduceEq, Int.reduceToNat, Int.reduceNeg, *, zhj]); first
  | (refine Le.via (ziV _ _ _ _ _ _ _) fun _ _ _ hy => ?_; try dsimp only [zfK] at hy; first | subst hy | obtain ⟨_, rfl⟩ := hy)
  | with_reducible refine Le.idx fun _ _ _ _ => ?_
  | ((with_reducible refine Le.ret ?_); first | exact rfl | exact Pu.mk)
  | with_reducible refine Le.itq (fun _ => ?_) (fun _ => ?_)
theorem zmd (p0 : TScope) (p1 : ByteArray) (p2 : TValue) : Le (fun r x => Pu (D.tup [D.agg [D.sl true 5 (List.map (TBinding.e false) r.1.Vars), D.sl true 4 (List.map (TFunction.e true) r.1.Functions), D.sl true 2 (List.map (TRecordType.e true) r.1.Types)], D.int .i64 r.2]) [] x) (zez p0 p1 p2) (zab T 31 [D.agg [D.sl false 5 (List.map (TBinding.e false) p0.Vars), D.sl false 4 (List.map (TFunction.e false) p0.Functions), D.sl false 2 (List.map (TRecordType.e false) p0.Types)], D.str p1, D.agg [D.int .i64 p2.Kind, D.int .i64 p2.Num, D.str p2.Text, D.int .i64 p2.Ref]] []) := by
 unfold zez
 refine Le.enter (g := v31) rfl rfl rfl rfl ?_
 try conv => arg 3; simp (maxSteps := 999999) only [sx, ty, ↓reduceIte, reduceCtorEq, Nat.reduceAdd, Nat.reduceSub, Nat.reduceLeDiff, Nat.reduceEqDiff, Nat.reduceLT, Nat.reduceMul, Nat.reduceBNe, List.reduceReplicate, Int.reduceLE, Int.reduceLT, Int.reduceEq, Int.reduceToNat, Int.reduceNeg, *, zhj, v31, zmU]
 refine Le.call (zli p0) fun r12 h _ hy => ?_
 obtain ⟨_, rfl⟩ := hy
 try conv => arg 3; simp (maxSteps := 999999) only [sx, ty, ↓reduceIte, reduceCtorEq, Nat.reduceAdd, Nat.reduceSub, Nat.reduceLeDiff, Nat.reduceEqDiff, Nat.reduceLT, Nat.reduceMul, Nat.reduceBNe, List.reduceReplicate, Int.reduceLE, Int.reduceLT, Int.reduceEq, Int.reduceToNat, Int.reduceNeg, *, zhj, v31, zmU]
 refine Le.via (ziU p1 p0 p2 (TScope.mk ([]) ([]) ([])) r12 ([]) 0 _) fun t h_1 _ hy => ?_
 try dsimp only [zde] at hy; first | subst hy | obtain ⟨_, rfl⟩ := hy
 try conv => arg 3; simp (maxSteps := 999999) only [sx, ty, ↓reduceIte, reduceCtorEq, Nat.reduceAdd, Nat.reduceSub, Nat.reduceLeDiff, Nat.reduceEqDiff, Nat.reduceLT, Nat.reduceMul, Nat.reduceBNe, List.reduceReplicate, Int.reduceLE, Int.reduceLT, Int.reduceEq, Int.reduceToNat, Int.reduceNeg, *, zhj, v31, zmU]
 refine Le.call (zlh p2) fun r40 h_2 _ hy => ?_
 obtain ⟨_, rfl⟩ := hy
 try conv => arg 3; simp (maxSteps := 999999) only [sx, ty, ↓reduceIte, reduceCtorEq, Nat.reduceAdd, Nat.reduceSub, Nat.reduceLeDiff, Nat.reduceEqDiff, Nat.reduceLT, Nat.reduceMul, Nat.reduceBNe, List.reduceReplicate, Int.reduceLE, Int.reduceLT, Int.reduceEq, Int.reduceToNat, Int.reduceNeg, *, zhj, v31, zmU]
 refine Le.bool (fun h_3 => ?_) (fun h_3 => ?_)
 ·repeat' (try conv => arg 3; simp (maxSteps := 999999) only [sx, ty, ↓reduceIte, reduceCtorEq, Nat.reduceAdd, Nat.reduceSub, Nat.reduceLeDiff, Nat.reduceEqDiff, Nat.reduceLT, Nat.reduceMul, Nat.reduceBNe, List.reduceReplicate, Int.reduceLE, Int.reduceLT, Int.reduceEq, Int.reduceToNat, Int.reduceNeg, *, zhj, v31, zmU]); first
   | exact zfM _ _ _ _ _ _ _
   | ((with_reducible refine Le.ret ?_); first | exact rfl | exact Pu.mk)
 ·try conv => arg 3; simp (maxSteps := 999999) only [sx, ty, ↓reduceIte, reduceCtorEq, Nat.reduceAdd, Nat.reduceSub, Nat.reduceLeDiff, Nat.reduceEqDiff, Nat.reduceLT, Nat.reduceMul, Nat.reduceBNe, List.reduceReplicate, Int.reduceLE, Int.reduceLT, Int.reduceEq, Int.reduceToNat, Int.reduceNeg, *, zhj, v31, zmU]
  refine Le.app fun c47 h_4 h_5 => ?_
  replace h_4 : List.map (TBinding.e false) t.1 ++ [D.agg [D.str p1, D.int .i64 p2.Kind, D.int .i64 p2.Num, D.str p2.Text, D.int .i64 p2.Ref]] = List.map (TBinding.e false) c47 := by rw [h_4, List.map_append] <;> rfl
  replace h_5 : t.1.length + 1 ≤ most := h_5
  repeat' (try conv => arg 3; simp (maxSteps := 999999) only [sx, ty, ↓reduceIte, reduceCtorEq, Nat.reduceAdd, Nat.reduceSub, Nat.reduceLeDiff, Nat.reduceEqDiff, Nat.reduceLT, Nat.reduceMul, Nat.reduceBNe, List.reduceReplicate, Int.reduceLE, Int.reduceLT, Int.reduceEq, Int.reduceToNat, Int.reduceNeg, *, zhj, v31, zmU]); first
   | exact zfM _ _ _ _ _ _ _
   | ((with_reducible refine Le.ret ?_); first | exact rfl | exact Pu.mk)
noncomputable abbrev zhR (s1 : ByteArray) (s3 : TScope) (s5 : TValue) (s6 : TScope) (k : List Fr) : Option Res := go T (enF [.cell 6 (.many 3), .tmp 7] []) zuF k ⟨[Z, .d (D.str s1), Z, .box [D.sl false 5 (List.map (TBinding.e false) s3.Vars), D.sl false 4 (List.map (TFunction.e false) s3.Functions), D.sl false 2 (List.map (TRecordType.e false) s3.Types)], Z, .box [D.int .i64 s5.Kind, D.int .i64 s5.Num, D.str s5.Text, D.int .i64 s5.Ref], .box [D.sl true 5 (List.map (TBinding.e false) s6.Vars), D.sl true 4 (List.map (TFunction.e true) s6.Functions), D.sl true 2 (List.map (TRecordType.e true) s6.Types)], Z, Z, Z, Z, Z, Z, Z, Z, Z, Z, Z, Z, Z, Z, Z, Z, Z, Z, Z, Z, Z], []⟩
noncomputable abbrev zme (s1 : ByteArray) (s3 : TScope) (s5 : TValue) (s6 : TScope) (k : List Fr) (t : (TScope × Int)) (x : Option Res) : Prop := Pu (D.tup [D.agg [D.sl true 5 (List.map (TBinding.e false) t.1.Vars), D.sl true 4 (List.map (TFunction.e true) t.1.Functions), D.sl true 2 (List.map (TRecordType.e true) t.1.Types)], D.int .i64 t.2]) [] x
theorem zmf (s1 : ByteArray) (s3 : TScope) (s5 : TValue) (s6 : TScope) (k : List Fr) : Le (zme s1 s3 s5 s6 k) (zfx s1 s3 s5 s6) (zhR s1 s3 s5 s6 k) := by
 unfold zfx zhR zuF
 repeat' (try conv => arg 3; simp (maxSteps := 999999) only [sx, ty, ↓reduceIte, reduceCtorEq, Nat.reduceAdd, Nat.reduceSub, Nat.reduceLeDiff, Nat.reduceEqDiff, Nat.reduceLT, Nat.reduceMul, Nat.reduceBNe, List.reduceReplicate, Int.reduceLE, Int.reduceLT, Int.reduceEq, Int.reduceToNat, Int.reduceNeg, *]); first
  | (refine Le.call (zmd _ _ _) fun _ _ _ hy => ?_; obtain ⟨_, rfl⟩ := hy)
  | ((with_reducible refine Le.ret ?_); first | exact rfl | exact Pu.mk)
theorem zqv (p0 : TScope) (p1 : ByteArray) (p2 : TValue) : Le (fun r x => Pu (D.tup [D.agg [D.sl true 5 (List.map (TBinding.e false) r.1.Vars), D.sl true 4 (List.map (TFunction.e true) r.1.Functions), D.sl true 2 (List.map (TRecordType.e true) r.1.Types)], D.int .i64 r.2]) [] x) (zhL p0 p1 p2) (zab T 8 [D.agg [D.sl false 5 (List.map (TBinding.e false) p0.Vars), D.sl false 4 (List.map (TFunction.e false) p0.Functions), D.sl false 2 (List.map (TRecordType.e false) p0.Types)], D.str p1, D.agg [D.int .i64 p2.Kind, D.int .i64 p2.Num, D.str p2.Text, D.int .i64 p2.Ref]] []) := by
 unfold zhL
 refine Le.enter (g := v8) rfl rfl rfl rfl ?_
 repeat' (try conv => arg 3; simp (maxSteps := 999999) only [sx, ty, ↓reduceIte, reduceCtorEq, Nat.reduceAdd, Nat.reduceSub, Nat.reduceLeDiff, Nat.reduceEqDiff, Nat.reduceLT, Nat.reduceMul, Nat.reduceBNe, List.reduceReplicate, Int.reduceLE, Int.reduceLT, Int.reduceEq, Int.reduceToNat, Int.reduceNeg, *, v8, v8_b]); first
  | (refine Le.call (zgY _) fun _ _ _ hy => ?_; obtain ⟨_, rfl⟩ := hy)
  | (refine Le.call (zet _) fun _ _ _ hy => ?_; obtain ⟨_, rfl⟩ := hy)
  | (refine Le.call (zgX _) fun _ _ _ hy => ?_; obtain ⟨_, rfl⟩ := hy)
  | exact zmf _ _ _ _ _
  | with_reducible refine Le.bool (fun _ => ?_) (fun _ => ?_)
  | ((with_reducible refine Le.ret ?_); first | exact rfl | exact Pu.mk)
noncomputable abbrev zcg (s1 : List TBinding) (s4 : TScope) (s6 : TScope) (s7 : Int) (k : List Fr) : Option Res := go T (enF [.cell 4 (.many 3), .tmp 5] []) zoM (.lp zoN :: .bl 0 :: .sq (.clr [0,2,5,7,8,9,10,11,12,13,14,15,16,17,18,19,20,21,22,23,24,25,26,27,28,29,30,31,32,33,34,35,36,37,38,39,40,41]) :: k) ⟨[Z, .d (D.sl false 5 (List.map (TBinding.e false) s1)), Z, Z, .box [D.sl true 5 (List.map (TBinding.e false) s4.Vars), D.sl true 4 (List.map (TFunction.e true) s4.Functions), D.sl true 2 (List.map (TRecordType.e true) s4.Types)], Z, .box [D.sl true 5 (List.map (TBinding.e false) s6.Vars), D.sl true 4 (List.map (TFunction.e true) s6.Functions), D.sl true 2 (List.map (TRecordType.e true) s6.Types)], .d (D.int .i64 s7), Z, Z, Z, Z, Z, Z, Z, Z, Z, Z, Z, Z, Z, Z, Z, Z, Z, Z, Z, Z, Z, Z, Z, Z, Z, Z, Z, Z, Z, Z, Z, Z, Z, Z, Z], []⟩
noncomputable abbrev zch (s1 : List TBinding) (s4 : TScope) (k : List Fr) (t : (TScope ⊕ (TScope × Int))) (x : Option Res) : Prop := match t with | .inl t => x = bk T (enF [.cell 4 (.many 3), .tmp 5] []) k ⟨[Z, .d (D.sl false 5 (List.map (TBinding.e false) s1)), Z, Z, .box [D.sl true 5 (List.map (TBinding.e false) s4.Vars), D.sl true 4 (List.map (TFunction.e true) s4.Functions), D.sl true 2 (List.map (TRecordType.e true) s4.Types)], Z, .box [D.sl true 5 (List.map (TBinding.e false) t.Vars), D.sl true 4 (List.map (TFunction.e true) t.Functions), D.sl true 2 (List.map (TRecordType.e true) t.Types)], Z, Z, Z, Z, Z, Z, Z, Z, Z, Z, Z, Z, Z, Z, Z, Z, Z, Z, Z, Z, Z, Z, Z, Z, Z, Z, Z, Z, Z, Z, Z, Z, Z, Z, Z, Z], []⟩ | .inr t => Pu (D.tup [D.agg [D.sl true 5 (List.map (TBinding.e false) t.1.Vars), D.sl true 4 (List.map (TFunction.e true) t.1.Functions), D.sl true 2 (List.map (TRecordType.e true) t.1.Types)], D.int .i64 t.2]) [] x
theorem zhk (s1 : List TBinding) (s4 : TScope) : ∀ (s6 : TScope) (s7 : Int) (k : List Fr), Le (zch s1 s4 k) (zbl s1 s4 s6 s7) (zcg s1 s4 s6 s7 k) := by
 intro s6 s7 k
 refine Le.cp (X := zcg s1 s4 s6 s7) (Q := zch s1 s4) ?_ k
 refine zbl.partial_correctness s1 s4 (motive := fun s6 s7 r => ∀ k : List Fr, zch s1 s4 k r (zcg s1 s4 s6 s7 k)) ?_ s6 s7
 intro rec hrec s6 s7
 refine Le.pc ?_
 intro k
 unfold zcg zoM
 repeat' (try conv => arg 3; simp (maxSteps := 999999) only [sx, ty, ↓reduceIte, reduceCtorEq, Nat.reduceAdd, Nat.reduceSub, Nat.reduceLeDiff, Nat.reduceEqDiff, Nat.reduceLT, Nat.reduceMul, Nat.reduceBNe, List.reduceReplicate, Int.reduceLE, Int.reduceLT, Int.reduceEq, Int.reduceToNat, Int.reduceNeg, *, zwf]); first
  | (refine Le.dcall (zqv _ _ _) fun _ _ _ hy => ?_; obtain ⟨_, rfl⟩ := hy)
  | with_reducible refine Le.idx fun _ _ _ _ => ?_
  | ((with_reducible refine Le.ret ?_); first | exact rfl | exact Pu.mk)
  | with_reducible refine Le.itq (fun _ => ?_) (fun _ => ?_)
  | exact fun r hr => hrec _ _ r hr k
theorem ziX (p0 : TScope) (p1 : List TBinding) : Le (fun r x => Pu (D.tup [D.agg [D.sl true 5 (List.map (TBinding.e false) r.1.Vars), D.sl true 4 (List.map (TFunction.e true) r.1.Functions), D.sl true 2 (List.map (TRecordType.e true) r.1.Types)], D.int .i64 r.2]) [] x) (zdN p0 p1) (zab T 16 [D.agg [D.sl false 5 (List.map (TBinding.e false) p0.Vars), D.sl false 4 (List.map (TFunction.e false) p0.Functions), D.sl false 2 (List.map (TRecordType.e false) p0.Types)], D.sl false 5 (List.map (TBinding.e false) p1)] []) := by
 unfold zdN
 refine Le.enter (g := v16) rfl rfl rfl rfl ?_
 repeat' (try conv => arg 3; simp (maxSteps := 999999) only [sx, ty, ↓reduceIte, reduceCtorEq, Nat.reduceAdd, Nat.reduceSub, Nat.reduceLeDiff, Nat.reduceEqDiff, Nat.reduceLT, Nat.reduceMul, Nat.reduceBNe, List.reduceReplicate, Int.reduceLE, Int.reduceLT, Int.reduceEq, Int.reduceToNat, Int.reduceNeg, *, zwf, v16, zwg]); first
  | (refine Le.call (zgY _) fun _ _ _ hy => ?_; obtain ⟨_, rfl⟩ := hy)
  | (refine Le.call (zli _) fun _ _ _ hy => ?_; obtain ⟨_, rfl⟩ := hy)
  | (refine Le.via (zhk _ _ _ _ _) fun t _ _ hy => ?_; rcases t with t | t <;> (try dsimp only [zch] at hy; first | subst hy | obtain ⟨_, rfl⟩ := hy))
  | with_reducible refine Le.bool (fun _ => ?_) (fun _ => ?_)
  | ((with_reducible refine Le.ret ?_); first | exact rfl | exact Pu.mk)
theorem zdH (p0 : TBinding) : Le (fun r x => Pu (D.str r) [] x) (zaX p0) (zab T 74 [D.agg [D.str p0.Name, D.int .i64 p0.Value.Kind, D.int .i64 p0.Value.Num, D.str p0.Value.Text, D.int .i64 p0.Value.Ref]] []) := by
 unfold zaX
 refine Le.enter (g := v74) rfl rfl rfl rfl ?_
 try conv => arg 3; simp (maxSteps := 999999) only [sx, ty, ↓reduceIte, reduceCtorEq, Nat.reduceAdd, Nat.reduceSub, Nat.reduceLeDiff, Nat.reduceEqDiff, Nat.reduceLT, Nat.reduceMul, Nat.reduceBNe, List.reduceReplicate, Int.reduceLE, Int.reduceLT, Int.reduceEq, Int.reduceToNat, Int.reduceNeg, *, v74, zwX]
 ((with_reducible refine Le.ret ?_); first | exact rfl | exact Pu.mk)
noncomputable abbrev zbj (s0 : List TBinding) (s5 : Int) (k : List Fr) : Option Res := go T (enF [.tmp 4] []) zpz (.lp zpA :: .bl 0 :: .sq (.clr [4,5,6,7,8,9,10,11,12,13,14,15,16,17,18,19,20,21,22,23,24,25]) :: k) ⟨[.d (D.sl false 5 (List.map (TBinding.e false) s0)), .d (D.fn 74 []), Z, Z, Z, .d (D.int .i64 s5), Z, Z, Z, Z, Z, Z, Z, Z, Z, Z, Z, Z, Z, Z, Z, Z, Z, Z, Z, Z], []⟩
noncomputable abbrev zbk (s0 : List TBinding) (k : List Fr) (t : (Unit ⊕ Bool)) (x : Option Res) : Prop := match t with | .inl t => x = bk T (enF [.tmp 4] []) k ⟨[.d (D.sl false 5 (List.map (TBinding.e false) s0)), .d (D.fn 74 []), Z, Z, Z, Z, Z, Z, Z, Z, Z, Z, Z, Z, Z, Z, Z, Z, Z, Z, Z, Z, Z, Z, Z, Z], []⟩ | .inr t => Pu (D.bool t) [] x
theorem zfz (s0 : List TBinding) : ∀ (s5 : Int) (k : List Fr), Le (zbk s0 k) (zbz s0 s5) (zbj s0 s5 k) := by
 intro s5 k
 refine Le.cp (X := zbj s0 s5) (Q := zbk s0) ?_ k
 refine zbz.partial_correctness s0 (motive := fun s5 r => ∀ k : List Fr, zbk s0 k r (zbj s0 s5 k)) ?_ s5
 intro rec hrec s5
 refine Le.pc ?_
 intro k
 unfold zbj zpz
 repeat' (try conv => arg 3; simp (maxSteps := 999999) only [sx, ty, ↓reduceIte, reduceCtorEq, Nat.reduceAdd, Nat.reduceSub, Nat.reduceLeDiff, Nat.reduceEqDiff, Nat.reduceLT, Nat.reduceMul, Nat.reduceBNe, List.reduceReplicate, Int.reduceLE, Int.reduceLT, Int.reduceEq, Int.reduceToNat, Int.reduceNeg, *, zwV]); first
  | (refine Le.dcall (zdH _) fun _ _ _ hy => ?_; obtain ⟨_, rfl⟩ := hy)
  | with_reducible refine Le.idx fun _ _ _ _ => ?_
  | with_reducible refine Le.bool (fun _ => ?_) (fun _ => ?_)
  | ((with_reducible refine Le.ret ?_); first | exact rfl | exact Pu.mk)
  | with_reducible refine Le.itq (fun _ => ?_) (fun _ => ?_)
  | exact fun r hr => hrec _ r hr k
theorem zgJ (p0 : List TBinding) : Le (fun r x => Pu (D.bool r) [] x) (zbA p0) (zab T 73 [D.sl false 5 (List.map (TBinding.e false) p0), D.fn 74 []] []) := by
 unfold zbA
 refine Le.enter (g := v73) rfl rfl rfl rfl ?_
 repeat' (try conv => arg 3; simp (maxSteps := 999999) only [sx, ty, ↓reduceIte, reduceCtorEq, Nat.reduceAdd, Nat.reduceSub, Nat.reduceLeDiff, Nat.reduceEqDiff, Nat.reduceLT, Nat.reduceMul, Nat.reduceBNe, List.reduceReplicate, Int.reduceLE, Int.reduceLT, Int.reduceEq, Int.reduceToNat, Int.reduceNeg, *, zwV, v73, zwW]); first
  | (refine Le.via (zfz _ _ _) fun t _ _ hy => ?_; rcases t with t | t <;> (try dsimp only [zbk] at hy; first | subst hy | obtain ⟨_, rfl⟩ := hy))
  | ((with_reducible refine Le.ret ?_); first | exact rfl | exact Pu.mk)
theorem zhS (p0 : TFunction) : Le (fun r x => Pu (D.str r) [] x) (zda p0) (zab T 76 [D.agg [D.str p0.Name, D.sl false 1 (List.map D.str p0.Params), D.sl false 1 (List.map D.str p0.Locals), D.str p0.Label]] []) := by
 unfold zda
 refine Le.enter (g := v76) rfl rfl rfl rfl ?_
 try conv => arg 3; simp (maxSteps := 999999) only [sx, ty, ↓reduceIte, reduceCtorEq, Nat.reduceAdd, Nat.reduceSub, Nat.reduceLeDiff, Nat.reduceEqDiff, Nat.reduceLT, Nat.reduceMul, Nat.reduceBNe, List.reduceReplicate, Int.reduceLE, Int.reduceLT, Int.reduceEq, Int.reduceToNat, Int.reduceNeg, *, v76, zxa]
 ((with_reducible refine Le.ret ?_); first | exact rfl | exact Pu.mk)
noncomputable abbrev zbe (s0 : List TFunction) (s5 : Int) (k : List Fr) : Option Res := go T (enF [.tmp 4] []) zpB (.lp zpC :: .bl 0 :: .sq (.clr [4,5,6,7,8,9,10,11,12,13,14,15,16,17,18,19,20,21,22,23,24,25]) :: k) ⟨[.d (D.sl false 4 (List.map (TFunction.e false) s0)), .d (D.fn 76 []), Z, Z, Z, .d (D.int .i64 s5), Z, Z, Z, Z, Z, Z, Z, Z, Z, Z, Z, Z, Z, Z, Z, Z, Z, Z, Z, Z], []⟩
noncomputable abbrev zbf (s0 : List TFunction) (k : List Fr) (t : (Unit ⊕ Bool)) (x : Option Res) : Prop := match t with | .inl t => x = bk T (enF [.tmp 4] []) k ⟨[.d (D.sl false 4 (List.map (TFunction.e false) s0)), .d (D.fn 76 []), Z, Z, Z, Z, Z, Z, Z, Z, Z, Z, Z, Z, Z, Z, Z, Z, Z, Z, Z, Z, Z, Z, Z, Z], []⟩ | .inr t => Pu (D.bool t) [] x
theorem zfe (s0 : List TFunction) : ∀ (s5 : Int) (k : List Fr), Le (zbf s0 k) (zbs s0 s5) (zbe s0 s5 k) := by
 intro s5 k
 refine Le.cp (X := zbe s0 s5) (Q := zbf s0) ?_ k
 refine zbs.partial_correctness s0 (motive := fun s5 r => ∀ k : List Fr, zbf s0 k r (zbe s0 s5 k)) ?_ s5
 intro rec hrec s5
 refine Le.pc ?_
 intro k
 unfold zbe zpB
 repeat' (try conv => arg 3; simp (maxSteps := 999999) only [sx, ty, ↓reduceIte, reduceCtorEq, Nat.reduceAdd, Nat.reduceSub, Nat.reduceLeDiff, Nat.reduceEqDiff, Nat.reduceLT, Nat.reduceMul, Nat.reduceBNe, List.reduceReplicate, Int.reduceLE, Int.reduceLT, Int.reduceEq, Int.reduceToNat, Int.reduceNeg, *, zwY]); first
  | (refine Le.dcall (zhS _) fun _ _ _ hy => ?_; obtain ⟨_, rfl⟩ := hy)
  | with_reducible refine Le.idx fun _ _ _ _ => ?_
  | with_reducible refine Le.bool (fun _ => ?_) (fun _ => ?_)
  | ((with_reducible refine Le.ret ?_); first | exact rfl | exact Pu.mk)
  | with_reducible refine Le.itq (fun _ => ?_) (fun _ => ?_)
  | exact fun r hr => hrec _ r hr k
theorem zgl (p0 : List TFunction) : Le (fun r x => Pu (D.bool r) [] x) (zbp p0) (zab T 75 [D.sl false 4 (List.map (TFunction.e false) p0), D.fn 76 []] []) := by
 unfold zbp
 refine Le.enter (g := v75) rfl rfl rfl rfl ?_
 repeat' (try conv => arg 3; simp (maxSteps := 999999) only [sx, ty, ↓reduceIte, reduceCtorEq, Nat.reduceAdd, Nat.reduceSub, Nat.reduceLeDiff, Nat.reduceEqDiff, Nat.reduceLT, Nat.reduceMul, Nat.reduceBNe, List.reduceReplicate, Int.reduceLE, Int.reduceLT, Int.reduceEq, Int.reduceToNat, Int.reduceNeg, *, zwY, v75, zwZ]); first
  | (refine Le.via (zfe _ _ _) fun t _ _ hy => ?_; rcases t with t | t <;> (try dsimp only [zbf] at hy; first | subst hy | obtain ⟨_, rfl⟩ := hy))
  | ((with_reducible refine Le.ret ?_); first | exact rfl | exact Pu.mk)
theorem zkI (p0 : TRecordType) : Le (fun r x => Pu (D.str r) [] x) (zeG p0) (zab T 78 [D.agg [D.str p0.Name, D.sl false 1 (List.map D.str p0.Fields)]] []) := by
 unfold zeG
 refine Le.enter (g := v78) rfl rfl rfl rfl ?_
 try conv => arg 3; simp (maxSteps := 999999) only [sx, ty, ↓reduceIte, reduceCtorEq, Nat.reduceAdd, Nat.reduceSub, Nat.reduceLeDiff, Nat.reduceEqDiff, Nat.reduceLT, Nat.reduceMul, Nat.reduceBNe, List.reduceReplicate, Int.reduceLE, Int.reduceLT, Int.reduceEq, Int.reduceToNat, Int.reduceNeg, *, v78, zxd]
 ((with_reducible refine Le.ret ?_); first | exact rfl | exact Pu.mk)
noncomputable abbrev zaP (s0 : List TRecordType) (s5 : Int) (k : List Fr) : Option Res := go T (enF [.tmp 4] []) zpD (.lp zpE :: .bl 0 :: .sq (.clr [4,5,6,7,8,9,10,11,12,13,14,15,16,17,18,19,20,21,22,23,24,25]) :: k) ⟨[.d (D.sl false 2 (List.map (TRecordType.e false) s0)), .d (D.fn 78 []), Z, Z, Z, .d (D.int .i64 s5), Z, Z, Z, Z, Z, Z, Z, Z, Z, Z, Z, Z, Z, Z, Z, Z, Z, Z, Z, Z], []⟩
noncomputable abbrev zaQ (s0 : List TRecordType) (k : List Fr) (t : (Unit ⊕ Bool)) (x : Option Res) : Prop := match t with | .inl t => x = bk T (enF [.tmp 4] []) k ⟨[.d (D.sl false 2 (List.map (TRecordType.e false) s0)), .d (D.fn 78 []), Z, Z, Z, Z, Z, Z, Z, Z, Z, Z, Z, Z, Z, Z, Z, Z, Z, Z, Z, Z, Z, Z, Z, Z], []⟩ | .inr t => Pu (D.bool t) [] x
theorem zeD (s0 : List TRecordType) : ∀ (s5 : Int) (k : List Fr), Le (zaQ s0 k) (zbc s0 s5) (zaP s0 s5 k) := by
 intro s5 k
 refine Le.cp (X := zaP s0 s5) (Q := zaQ s0) ?_ k
 refine zbc.partial_correctness s0 (motive := fun s5 r => ∀ k : List Fr, zaQ s0 k r (zaP s0 s5 k)) ?_ s5
 intro rec hrec s5
 refine Le.pc ?_
 intro k
 unfold zaP zpD
 repeat' (try conv => arg 3; simp (maxSteps := 999999) only [sx, ty, ↓reduceIte, reduceCtorEq, Nat.reduceAdd, Nat.reduceSub, Nat.reduceLeDiff, Nat.reduceEqDiff, Nat.reduceLT, Nat.reduceMul, Nat.reduceBNe, List.reduceReplicate, Int.reduceLE, Int.reduceLT, Int.reduceEq, Int.reduceToNat, Int.reduceNeg, *, zxb]); first
  | (refine Le.dcall (zkI _) fun _ _ _ hy => ?_; obtain ⟨_, rfl⟩ := hy)
  | with_reducible refine Le.idx fun _ _ _ _ => ?_
  | with_reducible refine Le.bool (fun _ => ?_) (fun _ => ?_)
  | ((with_reducible refine Le.ret ?_); first | exact rfl | exact Pu.mk)
  | with_reducible refine Le.itq (fun _ => ?_) (fun _ => ?_)
  | exact fun r hr => hrec _ r hr k
theorem zfA (p0 : List TRecordType) : Le (fun r x => Pu (D.bool r) [] x) (zaY p0) (zab T 77 [D.sl false 2 (List.map (TRecordType.e false) p0), D.fn 78 []] []) := by
 unfold zaY
 refine Le.enter (g := v77) rfl rfl rfl rfl ?_
 repeat' (try conv => arg 3; simp (maxSteps := 999999) only [sx, ty, ↓reduceIte, reduceCtorEq, Nat.reduceAdd, Nat.reduceSub, Nat.reduceLeDiff, Nat.reduceEqDiff, Nat.reduceLT, Nat.reduceMul, Nat.reduceBNe, List.reduceReplicate, Int.reduceLE, Int.reduceLT, Int.reduceEq, Int.reduceToNat, Int.reduceNeg, *, zxb, v77, zxc]); first
  | (refine Le.via (zeD _ _ _) fun t _ _ hy => ?_; rcases t with t | t <;> (try dsimp only [zaQ] at hy; first | subst hy | obtain ⟨_, rfl⟩ := hy))
  | ((with_reducible refine Le.ret ?_); first | exact rfl | exact Pu.mk)
theorem ziO (p0 : Int) : Le (fun r x => Pu (D.bool r) [] x) (zes p0) (zab T 85 [D.int .u8 p0] []) := by
 unfold zes
 refine Le.enter (g := v85) rfl rfl rfl rfl ?_
 repeat' (try conv => arg 3; simp (maxSteps := 999999) only [sx, ty, ↓reduceIte, reduceCtorEq, Nat.reduceAdd, Nat.reduceSub, Nat.reduceLeDiff, Nat.reduceEqDiff, Nat.reduceLT, Nat.reduceMul, Nat.reduceBNe, List.reduceReplicate, Int.reduceLE, Int.reduceLT, Int.reduceEq, Int.reduceToNat, Int.reduceNeg, *, v85, zxn]); first
  | ((with_reducible refine Le.ret ?_); first | exact rfl | exact Pu.mk)
  | with_reducible refine Le.itq (fun _ => ?_) (fun _ => ?_)
theorem zod (p0 : Int) : Le (fun r x => Pu (D.bool r) [] x) (zgj p0) (zab T 121 [D.int .u8 p0] []) := by
 unfold zgj
 refine Le.enter (g := v121) rfl rfl rfl rfl ?_
 repeat' (try conv => arg 3; simp (maxSteps := 999999) only [sx, ty, ↓reduceIte, reduceCtorEq, Nat.reduceAdd, Nat.reduceSub, Nat.reduceLeDiff, Nat.reduceEqDiff, Nat.reduceLT, Nat.reduceMul, Nat.reduceBNe, List.reduceReplicate, Int.reduceLE, Int.reduceLT, Int.reduceEq, Int.reduceToNat, Int.reduceNeg, *, v121, ztV]); first
  | ((with_reducible refine Le.ret ?_); first | exact rfl | exact Pu.mk)
  | with_reducible refine Le.itq (fun _ => ?_) (fun _ => ?_)
theorem zkJ (p0 : Int) : Le (fun r x => Pu (D.bool r) [] x) (zdm p0) (zab T 87 [D.int .u8 p0] []) := by
 unfold zdm
 refine Le.enter (g := v87) rfl rfl rfl rfl ?_
 repeat' (try conv => arg 3; simp (maxSteps := 999999) only [sx, ty, ↓reduceIte, reduceCtorEq, Nat.reduceAdd, Nat.reduceSub, Nat.reduceLeDiff, Nat.reduceEqDiff, Nat.reduceLT, Nat.reduceMul, Nat.reduceBNe, List.reduceReplicate, Int.reduceLE, Int.reduceLT, Int.reduceEq, Int.reduceToNat, Int.reduceNeg, *, v87, zxq]); first
  | (refine Le.call (ziO _) fun _ _ _ hy => ?_; obtain ⟨_, rfl⟩ := hy)
  | (refine Le.call (zod _) fun _ _ _ hy => ?_; obtain ⟨_, rfl⟩ := hy)
  | with_reducible refine Le.bool (fun _ => ?_) (fun _ => ?_)
  | ((with_reducible refine Le.ret ?_); first | exact rfl | exact Pu.mk)
noncomputable abbrev zcw (s0 : List Int) (s7 : List Int) (s8 : Int) (s9 : Int) (k : List Fr) : Option Res := go T (enF [.tmp 4] []) zpL (.lp zpM :: .bl 0 :: .sq (.clr [4,6,7,8,9,10,11,12,13,14,15,16,17]) :: k) ⟨[.d (D.sl false 1 (List.map (D.int .u8) s0)), .d (D.fn 87 []), Z, Z, Z, Z, Z, .d (D.sl false 1 (List.map (D.int .u8) s7)), .d (D.int .i64 s8), .d (D.int .i64 s9), Z, Z, Z, Z, Z, Z, Z, Z], []⟩
noncomputable abbrev zcx (s0 : List Int) (s7 : List Int) (s8 : Int) (k : List Fr) (t : (Unit ⊕ Bool)) (x : Option Res) : Prop := match t with | .inl t => x = bk T (enF [.tmp 4] []) k ⟨[.d (D.sl false 1 (List.map (D.int .u8) s0)), .d (D.fn 87 []), Z, Z, Z, Z, Z, Z, Z, Z, Z, Z, Z, Z, Z, Z, Z, Z], []⟩ | .inr t => Pu (D.bool t) [] x
theorem zhT (s0 : List Int) (s7 : List Int) (s8 : Int) : ∀ (s9 : Int) (k : List Fr), Le (zcx s0 s7 s8 k) (zdb s0 s7 s8 s9) (zcw s0 s7 s8 s9 k) := by
 intro s9 k
 refine Le.cp (X := zcw s0 s7 s8 s9) (Q := zcx s0 s7 s8) ?_ k
 refine zdb.partial_correctness s0 s7 s8 (motive := fun s9 r => ∀ k : List Fr, zcx s0 s7 s8 k r (zcw s0 s7 s8 s9 k)) ?_ s9
 intro rec hrec s9
 refine Le.pc ?_
 intro k
 unfold zcw zpL
 repeat' (try conv => arg 3; simp (maxSteps := 999999) only [sx, ty, ↓reduceIte, reduceCtorEq, Nat.reduceAdd, Nat.reduceSub, Nat.reduceLeDiff, Nat.reduceEqDiff, Nat.reduceLT, Nat.reduceMul, Nat.reduceBNe, List.reduceReplicate, Int.reduceLE, Int.reduceLT, Int.reduceEq, Int.reduceToNat, Int.reduceNeg, *, zxo]); first
  | (refine Le.call (zkJ _) fun _ _ _ hy => ?_; obtain ⟨_, rfl⟩ := hy)
  | with_reducible refine Le.idx fun _ _ _ _ => ?_
  | with_reducible refine Le.bool (fun _ => ?_) (fun _ => ?_)
  | ((with_reducible refine Le.ret ?_); first | exact rfl | exact Pu.mk)
  | with_reducible refine Le.itq (fun _ => ?_) (fun _ => ?_)
  | exact fun r hr => hrec _ r hr k
theorem zki (p0 : List Int) : Le (fun r x => Pu (D.bool r) [] x) (zdx p0) (zab T 86 [D.sl false 1 (List.map (D.int .u8) p0), D.fn 87 []] []) := by
 unfold zdx
 refine Le.enter (g := v86) rfl rfl rfl rfl ?_
 repeat' (try conv => arg 3; simp (maxSteps := 999999) only [sx, ty, ↓reduceIte, reduceCtorEq, Nat.reduceAdd, Nat.reduceSub, Nat.reduceLeDiff, Nat.reduceEqDiff, Nat.reduceLT, Nat.reduceMul, Nat.reduceBNe, List.reduceReplicate, Int.reduceLE, Int.reduceLT, Int.reduceEq, Int.reduceToNat, Int.reduceNeg, *, zxo, v86, zxp]); first
  | (refine Le.via (zhT _ _ _ _ _) fun t _ _ hy => ?_; rcases t with t | t <;> (try dsimp only [zcx] at hy; first | subst hy | obtain ⟨_, rfl⟩ := hy))
  | ((with_reducible refine Le.ret ?_); first | exact rfl | exact Pu.mk)
theorem zeu (p0 : ByteArray) : Le (fun r x => Pu (D.bool r) [] x) (zdc p0) (zab T 35 [D.str p0] []) := by
 unfold zdc
 refine Le.enter (g := v35) rfl rfl rfl rfl ?_
 repeat' (try conv => arg 3; simp (maxSteps := 999999) only [sx, ty, ↓reduceIte, reduceCtorEq, Nat.reduceAdd, Nat.reduceSub, Nat.reduceLeDiff, Nat.reduceEqDiff, Nat.reduceLT, Nat.reduceMul, Nat.reduceBNe, List.reduceReplicate, Int.reduceLE, Int.reduceLT, Int.reduceEq, Int.reduceToNat, Int.reduceNeg, *, v35, zwt]); first
  | (refine Le.call (ziO _) fun _ _ _ hy => ?_; obtain ⟨_, rfl⟩ := hy)
  | (refine Le.call (zki _) fun _ _ _ hy => ?_; obtain ⟨_, rfl⟩ := hy)
  | with_reducible refine Le.idxBN fun _ _ _ => ?_
  | with_reducible refine Le.bool (fun _ => ?_) (fun _ => ?_)
  | ((with_reducible refine Le.ret ?_); first | exact rfl | exact Pu.mk)
  | with_reducible refine Le.itq (fun _ => ?_) (fun _ => ?_)
theorem zlj (p0 : Int) (p1 : Int) (p2 : Int) : Le (fun r x => Pu (D.bool r) [] x) (zgG p0 p1 p2) (zab T 88 [D.int .i64 p0, D.int .i64 p1, D.int .i64 p2] []) := by
 unfold zgG
 refine Le.enter (g := v88) rfl rfl rfl rfl ?_
 repeat' (try conv => arg 3; simp (maxSteps := 999999) only [sx, ty, ↓reduceIte, reduceCtorEq, Nat.reduceAdd, Nat.reduceSub, Nat.reduceLeDiff, Nat.reduceEqDiff, Nat.reduceLT, Nat.reduceMul, Nat.reduceBNe, List.reduceReplicate, Int.reduceLE, Int.reduceLT, Int.reduceEq, Int.reduceToNat, Int.reduceNeg, *, v88, zxr]); first
  | ((with_reducible refine Le.ret ?_); first | exact rfl | exact Pu.mk)
  | with_reducible refine Le.itq (fun _ => ?_) (fun _ => ?_)
theorem zkK (p0 : Int) : Le (fun r x => Pu (D.bool r) [] x) (zdS p0) (zab T 89 [D.int .i64 p0] []) := by
 unfold zdS
 refine Le.enter (g := v89) rfl rfl rfl rfl ?_
 repeat' (try conv => arg 3; simp (maxSteps := 999999) only [sx, ty, ↓reduceIte, reduceCtorEq, Nat.reduceAdd, Nat.reduceSub, Nat.reduceLeDiff, Nat.reduceEqDiff, Nat.reduceLT, Nat.reduceMul, Nat.reduceBNe, List.reduceReplicate, Int.reduceLE, Int.reduceLT, Int.reduceEq, Int.reduceToNat, Int.reduceNeg, *, v89, zxs]); first
  | (refine Le.call (zlj _ _ _) fun _ _ _ hy => ?_; obtain ⟨_, rfl⟩ := hy)
  | ((with_reducible refine Le.ret ?_); first | exact rfl | exact Pu.mk)
noncomputable abbrev zff (s1 : TValue) (s65 : Bool) (k : List Fr) : Option Res := go T (enF [.tmp 2] []) zrP k ⟨[Z, .box [D.int .i64 s1.Kind, D.int .i64 s1.Num, D.str s1.Text, D.int .i64 s1.Ref], Z, Z, Z, Z, Z, Z, Z, Z, Z, Z, Z, Z, Z, Z, Z, Z, Z, Z, Z, Z, Z, Z, Z, Z, Z, Z, Z, Z, Z, Z, Z, Z, Z, Z, Z, Z, Z, Z, Z, Z, Z, Z, Z, Z, Z, Z, Z, Z, Z, Z, Z, Z, Z, Z, Z, Z, Z, Z, Z, Z, Z, Z, Z, .d (D.bool s65), Z, Z, Z, Z, Z, Z, Z, Z, Z, Z, Z, Z, Z, Z], []⟩
noncomputable abbrev zfg (s1 : TValue) (s65 : Bool) (k : List Fr) (t : (Bool ⊕ Bool)) (x : Option Res) : Prop := match t with | .inl t => x = bk T (enF [.tmp 2] []) k ⟨[Z, .box [D.int .i64 s1.Kind, D.int .i64 s1.Num, D.str s1.Text, D.int .i64 s1.Ref], Z, Z, Z, Z, Z, Z, Z, Z, Z, Z, Z, Z, Z, Z, Z, Z, Z, Z, Z, Z, Z, Z, Z, Z, Z, Z, Z, Z, Z, Z, Z, Z, Z, Z, Z, Z, Z, Z, Z, Z, Z, Z, Z, Z, Z, Z, Z, Z, Z, Z, Z, Z, Z, Z, Z, Z, Z, Z, Z, Z, Z, Z, Z, .d (D.bool t), Z, Z, Z, Z, Z, Z, Z, Z, Z, Z, Z, Z, Z, Z], []⟩ | .inr t => Pu (D.bool t) [] x
theorem ziv (s1 : TValue) (s65 : Bool) (k : List Fr) : Le (zfg s1 s65 k) (zcB s1 s65) (zff s1 s65 k) := by
 unfold zcB zff zrP
 repeat' (try conv => arg 3; simp (maxSteps := 999999) only [sx, ty, ↓reduceIte, reduceCtorEq, Nat.reduceAdd, Nat.reduceSub, Nat.reduceLeDiff, Nat.reduceEqDiff, Nat.reduceLT, Nat.reduceMul, Nat.reduceBNe, List.reduceReplicate, Int.reduceLE, Int.reduceLT, Int.reduceEq, Int.reduceToNat, Int.reduceNeg, *]); first
  | (refine Le.call (zeu _) fun _ _ _ hy => ?_; obtain ⟨_, rfl⟩ := hy)
  | with_reducible refine Le.bool (fun _ => ?_) (fun _ => ?_)
  | ((with_reducible refine Le.ret ?_); first | exact rfl | exact Pu.mk)
  | with_reducible refine Le.itq (fun _ => ?_) (fun _ => ?_)
noncomputable abbrev zfh (s1 : TValue) (s4 : Int) (s49 : Bool) (k : List Fr) : Option Res := go T (enF [.tmp 2] []) zrQ k ⟨[Z, .box [D.int .i64 s1.Kind, D.int .i64 s1.Num, D.str s1.Text, D.int .i64 s1.Ref], Z, Z, .d (D.int .i64 s4), Z, Z, Z, Z, Z, Z, Z, Z, Z, Z, Z, Z, Z, Z, Z, Z, Z, Z, Z, Z, Z, Z, Z, Z, Z, Z, Z, Z, Z, Z, Z, Z, Z, Z, Z, Z, Z, Z, Z, Z, Z, Z, Z, Z, .d (D.bool s49), Z, Z, Z, Z, Z, Z, Z, Z, Z, Z, Z, Z, Z, Z, Z, Z, Z, Z, Z, Z, Z, Z, Z, Z, Z, Z, Z, Z, Z, Z], []⟩
noncomputable abbrev zfi (s1 : TValue) (s4 : Int) (s49 : Bool) (k : List Fr) (t : (Bool ⊕ Bool)) (x : Option Res) : Prop := match t with | .inl t => x = bk T (enF [.tmp 2] []) k ⟨[Z, .box [D.int .i64 s1.Kind, D.int .i64 s1.Num, D.str s1.Text, D.int .i64 s1.Ref], Z, Z, Z, Z, Z, Z, Z, Z, Z, Z, Z, Z, Z, Z, Z, Z, Z, Z, Z, Z, Z, Z, Z, Z, Z, Z, Z, Z, Z, Z, Z, Z, Z, Z, Z, Z, Z, Z, Z, Z, Z, Z, Z, Z, Z, Z, Z, Z, Z, Z, Z, Z, Z, Z, Z, Z, Z, Z, Z, Z, Z, Z, Z, .d (D.bool t), Z, Z, Z, Z, Z, Z, Z, Z, Z, Z, Z, Z, Z, Z], []⟩ | .inr t => Pu (D.bool t) [] x
theorem ziw (s1 : TValue) (s4 : Int) (s49 : Bool) (k : List Fr) : Le (zfi s1 s4 s49 k) (zbV s1 s4 s49) (zfh s1 s4 s49 k) := by
 unfold zbV zfh zrQ
 repeat' (try conv => arg 3; simp (maxSteps := 999999) only [sx, ty, ↓reduceIte, reduceCtorEq, Nat.reduceAdd, Nat.reduceSub, Nat.reduceLeDiff, Nat.reduceEqDiff, Nat.reduceLT, Nat.reduceMul, Nat.reduceBNe, List.reduceReplicate, Int.reduceLE, Int.reduceLT, Int.reduceEq, Int.reduceToNat, Int.reduceNeg, *]); first
  | (refine Le.call (zkK _) fun _ _ _ hy => ?_; obtain ⟨_, rfl⟩ := hy)
  | (refine Le.via (ziv _ _ _) fun t _ _ hy => ?_; rcases t with t | t <;> (try dsimp only [zfg] at hy; first | subst hy | obtain ⟨_, rfl⟩ := hy))
  | with_reducible refine Le.bool (fun _ => ?_) (fun _ => ?_)
  | ((with_reducible refine Le.ret ?_); first | exact rfl | exact Pu.mk)
  | with_reducible refine Le.itq (fun _ => ?_) (fun _ => ?_)
theorem zgZ (p0 : TValue) : Le (fun r x => Pu (D.bool r) [] x) (zdn p0) (zab T 36 [D.agg [D.int .i64 p0.Kind, D.int .i64 p0.Num, D.str p0.Text, D.int .i64 p0.Ref]] []) := by
 unfold zdn
 refine Le.enter (g := v36) rfl rfl rfl rfl ?_
 repeat' (try conv => arg 3; simp (maxSteps := 999999) only [sx, ty, ↓reduceIte, reduceCtorEq, Nat.reduceAdd, Nat.reduceSub, Nat.reduceLeDiff, Nat.reduceEqDiff, Nat.reduceLT, Nat.reduceMul, Nat.reduceBNe, List.reduceReplicate, Int.reduceLE, Int.reduceLT, Int.reduceEq, Int.reduceToNat, Int.reduceNeg, *, v36, zwu]); first
  | (refine Le.call (zlj _ _ _) fun _ _ _ hy => ?_; obtain ⟨_, rfl⟩ := hy)
  | (refine Le.via (ziw _ _ _ _) fun t _ _ hy => ?_; rcases t with t | t <;> (try dsimp only [zfi] at hy; first | subst hy | obtain ⟨_, rfl⟩ := hy))
  | ((with_reducible refine Le.ret ?_); first | exact rfl | exact Pu.mk)
  | with_reducible refine Le.itq (fun _ => ?_) (fun _ => ?_)
theorem zqw (p0 : ByteArray) : Le (fun r x => Pu (D.agg [D.int .i64 r.Kind, D.int .i64 r.Num, D.str r.Text, D.int .i64 r.Ref]) [] x) (zma p0) (zab T 134 [D.str p0] []) := by
 unfold zma
 refine Le.enter (g := v134) rfl rfl rfl rfl ?_
 try conv => arg 3; simp (maxSteps := 999999) only [sx, ty, ↓reduceIte, reduceCtorEq, Nat.reduceAdd, Nat.reduceSub, Nat.reduceLeDiff, Nat.reduceEqDiff, Nat.reduceLT, Nat.reduceMul, Nat.reduceBNe, List.reduceReplicate, Int.reduceLE, Int.reduceLT, Int.reduceEq, Int.reduceToNat, Int.reduceNeg, *, v134, zub]
 ((with_reducible refine Le.ret ?_); first | exact rfl | exact Pu.mk)
theorem ztc : Le (fun r x => Pu (D.agg [D.int .i64 r.Kind, D.int .i64 r.Num, D.str r.Text, D.int .i64 r.Ref]) [] x) (zsh) (zab T 112 [] []) := by
 unfold zsh
 refine Le.enter (g := v112) rfl rfl rfl rfl ?_
 repeat' (try conv => arg 3; simp (maxSteps := 999999) only [sx, ty, ↓reduceIte, reduceCtorEq, Nat.reduceAdd, Nat.reduceSub, Nat.reduceLeDiff, Nat.reduceEqDiff, Nat.reduceLT, Nat.reduceMul, Nat.reduceBNe, List.reduceReplicate, Int.reduceLE, Int.reduceLT, Int.reduceEq, Int.reduceToNat, Int.reduceNeg, *, v112, ztK]); first
  | (refine Le.call (zqw _) fun _ _ _ hy => ?_; obtain ⟨_, rfl⟩ := hy)
  | ((with_reducible refine Le.ret ?_); first | exact rfl | exact Pu.mk)
theorem zlk (p0 : TValue) : Le (fun r x => Pu (D.bool r) [] x) (zhM p0) (zab T 93 [D.agg [D.int .i64 p0.Kind, D.int .i64 p0.Num, D.str p0.Text, D.int .i64 p0.Ref]] []) := by
 unfold zhM
 refine Le.enter (g := v93) rfl rfl rfl rfl ?_
 repeat' (try conv => arg 3; simp (maxSteps := 999999) only [sx, ty, ↓reduceIte, reduceCtorEq, Nat.reduceAdd, Nat.reduceSub, Nat.reduceLeDiff, Nat.reduceEqDiff, Nat.reduceLT, Nat.reduceMul, Nat.reduceBNe, List.reduceReplicate, Int.reduceLE, Int.reduceLT, Int.reduceEq, Int.reduceToNat, Int.reduceNeg, *, v93, zxu]); first
  | (refine Le.dcall (ztc) fun _ _ _ hy => ?_; obtain ⟨_, rfl⟩ := hy)
  | ((with_reducible refine Le.ret ?_); first | exact rfl | exact Pu.mk)
theorem zhl (p0 : TBinding) : Le (fun r x => Pu (D.bool r) [] x) (zbm p0) (zab T 80 [D.agg [D.str p0.Name, D.int .i64 p0.Value.Kind, D.int .i64 p0.Value.Num, D.str p0.Value.Text, D.int .i64 p0.Value.Ref]] []) := by
 unfold zbm
 refine Le.enter (g := v80) rfl rfl rfl rfl ?_
 repeat' (try conv => arg 3; simp (maxSteps := 999999) only [sx, ty, ↓reduceIte, reduceCtorEq, Nat.reduceAdd, Nat.reduceSub, Nat.reduceLeDiff, Nat.reduceEqDiff, Nat.reduceLT, Nat.reduceMul, Nat.reduceBNe, List.reduceReplicate, Int.reduceLE, Int.reduceLT, Int.reduceEq, Int.reduceToNat, Int.reduceNeg, *, v80, zxg]); first
  | (refine Le.call (zeu _) fun _ _ _ hy => ?_; obtain ⟨_, rfl⟩ := hy)
  | (refine Le.call (zgZ _) fun _ _ _ hy => ?_; obtain ⟨_, rfl⟩ := hy)
  | (refine Le.call (zlk _) fun _ _ _ hy => ?_; obtain ⟨_, rfl⟩ := hy)
  | with_reducible refine Le.bool (fun _ => ?_) (fun _ => ?_)
  | ((with_reducible refine Le.ret ?_); first | exact rfl | exact Pu.mk)
noncomputable abbrev zbE (s0 : List TBinding) (s7 : List TBinding) (s8 : Int) (s9 : Int) (k : List Fr) : Option Res := go T (enF [.tmp 4] []) zpF (.lp zpG :: .bl 0 :: .sq (.clr [4,6,7,8,9,10,11,12,13,14,15,16,17]) :: k) ⟨[.d (D.sl false 5 (List.map (TBinding.e false) s0)), .d (D.fn 80 []), Z, Z, Z, Z, Z, .d (D.sl false 5 (List.map (TBinding.e false) s7)), .d (D.int .i64 s8), .d (D.int .i64 s9), Z, Z, Z, Z, Z, Z, Z, Z], []⟩
noncomputable abbrev zbF (s0 : List TBinding) (s7 : List TBinding) (s8 : Int) (k : List Fr) (t : (Unit ⊕ Bool)) (x : Option Res) : Prop := match t with | .inl t => x = bk T (enF [.tmp 4] []) k ⟨[.d (D.sl false 5 (List.map (TBinding.e false) s0)), .d (D.fn 80 []), Z, Z, Z, Z, Z, Z, Z, Z, Z, Z, Z, Z, Z, Z, Z, Z], []⟩ | .inr t => Pu (D.bool t) [] x
theorem zgm (s0 : List TBinding) (s7 : List TBinding) (s8 : Int) : ∀ (s9 : Int) (k : List Fr), Le (zbF s0 s7 s8 k) (zcf s0 s7 s8 s9) (zbE s0 s7 s8 s9 k) := by
 intro s9 k
 refine Le.cp (X := zbE s0 s7 s8 s9) (Q := zbF s0 s7 s8) ?_ k
 refine zcf.partial_correctness s0 s7 s8 (motive := fun s9 r => ∀ k : List Fr, zbF s0 s7 s8 k r (zbE s0 s7 s8 s9 k)) ?_ s9
 intro rec hrec s9
 refine Le.pc ?_
 intro k
 unfold zbE zpF
 repeat' (try conv => arg 3; simp (maxSteps := 999999) only [sx, ty, ↓reduceIte, reduceCtorEq, Nat.reduceAdd, Nat.reduceSub, Nat.reduceLeDiff, Nat.reduceEqDiff, Nat.reduceLT, Nat.reduceMul, Nat.reduceBNe, List.reduceReplicate, Int.reduceLE, Int.reduceLT, Int.reduceEq, Int.reduceToNat, Int.reduceNeg, *, zxe]); first
  | (refine Le.call (zhl _) fun _ _ _ hy => ?_; obtain ⟨_, rfl⟩ := hy)
  | with_reducible refine Le.idx fun _ _ _ _ => ?_
  | with_reducible refine Le.bool (fun _ => ?_) (fun _ => ?_)
  | ((with_reducible refine Le.ret ?_); first | exact rfl | exact Pu.mk)
  | with_reducible refine Le.itq (fun _ => ?_) (fun _ => ?_)
  | exact fun r hr => hrec _ r hr k
theorem zhU (p0 : List TBinding) : Le (fun r x => Pu (D.bool r) [] x) (zco p0) (zab T 79 [D.sl false 5 (List.map (TBinding.e false) p0), D.fn 80 []] []) := by
 unfold zco
 refine Le.enter (g := v79) rfl rfl rfl rfl ?_
 repeat' (try conv => arg 3; simp (maxSteps := 999999) only [sx, ty, ↓reduceIte, reduceCtorEq, Nat.reduceAdd, Nat.reduceSub, Nat.reduceLeDiff, Nat.reduceEqDiff, Nat.reduceLT, Nat.reduceMul, Nat.reduceBNe, List.reduceReplicate, Int.reduceLE, Int.reduceLT, Int.reduceEq, Int.reduceToNat, Int.reduceNeg, *, zxe, v79, zxf]); first
  | (refine Le.via (zgm _ _ _ _ _) fun t _ _ hy => ?_; rcases t with t | t <;> (try dsimp only [zbF] at hy; first | subst hy | obtain ⟨_, rfl⟩ := hy))
  | ((with_reducible refine Le.ret ?_); first | exact rfl | exact Pu.mk)
theorem zdD (sto : List (List D)) : zab T 136 [.nils 1, .int .i64 0] sto = some (.nils 1, [], sto) := by
 rw [zaf T (g := v136) rfl rfl rfl _ _ rfl]
 simp (maxSteps := 9999999) (disch := omega) only [vx, px, ty, ↓reduceIte, Bool.false_eq_true, reduceCtorEq, Nat.reduceAdd, Nat.reduceSub, Nat.reduceLeDiff, Nat.reduceEqDiff, Nat.reduceLT, Nat.reduceMul, List.reduceReplicate, and_true, true_and, and_false, false_and, and_self, or_true, true_or, or_false, false_or, not_true_eq_false, not_false_eq_true, ne_eq, vxd, Nat.reduceBNe, most, ifT, ifF, v136, zsb, Int.reduceToNat, Int.toNat_zero, zdo.eq_3]
theorem zdE (n : Int) (sto : List (List D)) (h : 0 < n) (h2 : n ≤ 2147483648) : zab T 136 [.nils 1, .int .i64 n] sto = some (.sl true 1 [], [], sto) := by
 rw [zaf T (g := v136) rfl rfl rfl _ _ rfl]
 simp (maxSteps := 9999999) (disch := omega) only [vx, px, ty, ↓reduceIte, Bool.false_eq_true, reduceCtorEq, Nat.reduceAdd, Nat.reduceSub, Nat.reduceLeDiff, Nat.reduceEqDiff, Nat.reduceLT, Nat.reduceMul, List.reduceReplicate, and_true, true_and, and_false, false_and, and_self, or_true, true_or, or_false, false_or, not_true_eq_false, not_false_eq_true, ne_eq, vxd, Nat.reduceBNe, most, ifT, ifF, v136, zsb, Int.reduceToNat, Int.toNat_zero, zdo.eq_3, zql, Int.sub_zero]
theorem zdW (a b : List ByteArray) (sto : List (List D)) (h : a.length + b.length ≤ 2147483648) : zab T 118 [.sl false 1 [.sl false 1 (a.map D.str), .sl false 1 (b.map D.str)]] sto = some (.sl true 1 ((a ++ b).map D.str), [], sto) := by
 by_cases h0 : a.length + b.length = 0
 ·obtain rfl : a = [] := List.length_eq_zero_iff.1 (by omega)
  obtain rfl : b = [] := List.length_eq_zero_iff.1 (by omega)
  have e0 : ((0 : Nat) : Int) + ((0 : Nat) : Int) = 0 := rfl
  rw [zaf T (g := v118) rfl rfl rfl _ _ rfl]
  simp (maxSteps := 9999999) (disch := omega) only [vx, px, ty, ↓reduceIte, Bool.false_eq_true, reduceCtorEq, Nat.reduceAdd, Nat.reduceSub, Nat.reduceLeDiff, Nat.reduceEqDiff, Nat.reduceLT, Nat.reduceMul, List.reduceReplicate, and_true, true_and, and_false, false_and, and_self, or_true, true_or, or_false, false_or, not_true_eq_false, not_false_eq_true, ne_eq, vxd, Nat.reduceBNe, most, ifT, ifF, v118, zrZ, ztR, zlL, ztS, zlM, List.length_map, zdD, Int.reduceToNat, Int.toNat_zero, zdo.eq_3, Int.add_zero, Int.zero_add, Int.reduceAdd, e0]
 ·rw [List.map_append]
  have e1 := fun sto => zdE ((a.length : Int) + (b.length : Int)) sto (by omega) (by omega)
  rw [zaf T (g := v118) rfl rfl rfl _ _ rfl]
  simp (maxSteps := 9999999) (disch := omega) only [vx, px, ty, ↓reduceIte, Bool.false_eq_true, reduceCtorEq, Nat.reduceAdd, Nat.reduceSub, Nat.reduceLeDiff, Nat.reduceEqDiff, Nat.reduceLT, Nat.reduceMul, List.reduceReplicate, and_true, true_and, and_false, false_and, and_self, or_true, true_or, or_false, false_or, not_true_eq_false, not_false_eq_true, ne_eq, vxd, Nat.reduceBNe, most, ifT, ifF, v118, zrZ, ztR, zlL, ztS, zlM, List.length_map, e1, Int.reduceToNat, Int.reduceAdd, Int.zero_add, Int.toNat_zero, zdo.eq_3]
theorem zdX (a b : List ByteArray) : Le (fun r x => Pu (D.sl true 1 (List.map D.str r)) [] x) (zaM a b) (zab T 118 [D.sl false 1 [D.sl false 1 (List.map D.str a), D.sl false 1 (List.map D.str b)]] []) := by
 unfold zaM
 refine Le.chk fun h => Le.ret ?_
 exact ⟨_, zdW a b [] h⟩
noncomputable abbrev zbJ (s0 : List ByteArray) (s7 : List ByteArray) (s8 : Int) (s9 : Int) (k : List Fr) : Option Res := go T (enF [.tmp 4] []) zpv (.lp zpw :: .bl 0 :: .sq (.clr [4,6,7,8,9,10,11,12,13,14,15,16,17]) :: k) ⟨[.d (D.sl false 1 (List.map D.str s0)), .d (D.fn 35 []), Z, Z, Z, Z, Z, .d (D.sl false 1 (List.map D.str s7)), .d (D.int .i64 s8), .d (D.int .i64 s9), Z, Z, Z, Z, Z, Z, Z, Z], []⟩
noncomputable abbrev zbK (s0 : List ByteArray) (s7 : List ByteArray) (s8 : Int) (k : List Fr) (t : (Unit ⊕ Bool)) (x : Option Res) : Prop := match t with | .inl t => x = bk T (enF [.tmp 4] []) k ⟨[.d (D.sl false 1 (List.map D.str s0)), .d (D.fn 35 []), Z, Z, Z, Z, Z, Z, Z, Z, Z, Z, Z, Z, Z, Z, Z, Z], []⟩ | .inr t => Pu (D.bool t) [] x
theorem zgK (s0 : List ByteArray) (s7 : List ByteArray) (s8 : Int) : ∀ (s9 : Int) (k : List Fr), Le (zbK s0 s7 s8 k) (zcu s0 s7 s8 s9) (zbJ s0 s7 s8 s9 k) := by
 intro s9 k
 refine Le.cp (X := zbJ s0 s7 s8 s9) (Q := zbK s0 s7 s8) ?_ k
 refine zcu.partial_correctness s0 s7 s8 (motive := fun s9 r => ∀ k : List Fr, zbK s0 s7 s8 k r (zbJ s0 s7 s8 s9 k)) ?_ s9
 intro rec hrec s9
 refine Le.pc ?_
 intro k
 unfold zbJ zpv
 repeat' (try conv => arg 3; simp (maxSteps := 999999) only [sx, ty, ↓reduceIte, reduceCtorEq, Nat.reduceAdd, Nat.reduceSub, Nat.reduceLeDiff, Nat.reduceEqDiff, Nat.reduceLT, Nat.reduceMul, Nat.reduceBNe, List.reduceReplicate, Int.reduceLE, Int.reduceLT, Int.reduceEq, Int.reduceToNat, Int.reduceNeg, *, zwM]); first
  | (refine Le.call (zeu _) fun _ _ _ hy => ?_; obtain ⟨_, rfl⟩ := hy)
  | with_reducible refine Le.idx fun _ _ _ _ => ?_
  | with_reducible refine Le.bool (fun _ => ?_) (fun _ => ?_)
  | ((with_reducible refine Le.ret ?_); first | exact rfl | exact Pu.mk)
  | with_reducible refine Le.itq (fun _ => ?_) (fun _ => ?_)
  | exact fun r hr => hrec _ r hr k
theorem zfj (p0 : List ByteArray) : Le (fun r x => Pu (D.bool r) [] x) (zbW p0) (zab T 62 [D.sl false 1 (List.map D.str p0), D.fn 35 []] []) := by
 unfold zbW
 refine Le.enter (g := v62) rfl rfl rfl rfl ?_
 repeat' (try conv => arg 3; simp (maxSteps := 999999) only [sx, ty, ↓reduceIte, reduceCtorEq, Nat.reduceAdd, Nat.reduceSub, Nat.reduceLeDiff, Nat.reduceEqDiff, Nat.reduceLT, Nat.reduceMul, Nat.reduceBNe, List.reduceReplicate, Int.reduceLE, Int.reduceLT, Int.reduceEq, Int.reduceToNat, Int.reduceNeg, *, zwM, v62, zwN]); first
  | (refine Le.via (zgK _ _ _ _ _) fun t _ _ hy => ?_; rcases t with t | t <;> (try dsimp only [zbK] at hy; first | subst hy | obtain ⟨_, rfl⟩ := hy))
  | ((with_reducible refine Le.ret ?_); first | exact rfl | exact Pu.mk)
theorem zel (xs : List ByteArray) (h : xs.length ≤ 2147483648) : zab T 91 [.sl false 1 (xs.map D.str)] [] = some (.sl true 1 (xs.map D.str), [], []) := by
 cases xs with
 | nil =>
  rw [zaf T (g := v91) rfl rfl rfl _ _ rfl]
  simp (maxSteps := 9999999) (disch := omega) only [vx, px, ty, ↓reduceIte, Bool.false_eq_true, reduceCtorEq, Nat.reduceAdd, Nat.reduceSub, Nat.reduceLeDiff, Nat.reduceEqDiff, Nat.reduceLT, Nat.reduceMul, List.reduceReplicate, and_true, true_and, and_false, false_and, and_self, or_true, true_or, or_false, false_or, not_true_eq_false, not_false_eq_true, ne_eq, vxd, Nat.reduceBNe, most, ifT, ifF, v91, zuZ]
 | cons x xs =>
  rw [List.length_cons] at h
  rw [zaf T (g := v91) rfl rfl rfl _ _ rfl]
  simp (maxSteps := 9999999) (disch := omega) only [vx, px, ty, ↓reduceIte, Bool.false_eq_true, reduceCtorEq, Nat.reduceAdd, Nat.reduceSub, Nat.reduceLeDiff, Nat.reduceEqDiff, Nat.reduceLT, Nat.reduceMul, List.reduceReplicate, and_true, true_and, and_false, false_and, and_self, or_true, true_or, or_false, false_or, not_true_eq_false, not_false_eq_true, ne_eq, vxd, Nat.reduceBNe, most, ifT, ifF, v91, zuZ]
theorem zaA (p0 : List ByteArray) : Le (fun r x => Pu (D.sl true 1 (List.map D.str r)) [] x) (zac p0) (zab T 91 [D.sl false 1 (List.map D.str p0)] []) := by
 unfold zac
 refine Le.chk fun h => Le.ret ?_
 exact ⟨_, zel p0 h⟩
theorem zeA (p0 : List ByteArray) : Le (fun r x => Pu (D.tup []) [D.sl true 1 (List.map D.str r)] x) (zaU p0) (zab T 137 [D.sl true 1 (List.map D.str p0)] []) := by
 unfold zaU
 refine Le.chk fun h => Le.ret ?_
 exact ⟨_, by rw [zgu (g := zqo) T rfl, znR p0 h]; rfl⟩
theorem zdU (p0 : List ByteArray) : Le (fun r x => Pu (D.sl true 1 (List.map D.str r)) [] x) (zaG p0) (zab T 138 [D.sl true 1 (List.map D.str p0)] []) := by
 unfold zaG
 refine Le.chk fun h => Le.ret ?_
 exact ⟨_, by rw [zgu (g := zgD) T rfl, zky p0 h]; rfl⟩
theorem zgn (p0 : List ByteArray) : Le (fun r x => Pu (D.sl true 1 (List.map D.str r)) [] x) (zcG p0) (zab T 119 [D.sl true 1 (List.map D.str p0)] []) := by
 unfold zcG
 refine Le.enter (g := v119) rfl rfl rfl rfl ?_
 repeat' (try conv => arg 3; simp (maxSteps := 999999) only [sx, ty, ↓reduceIte, reduceCtorEq, Nat.reduceAdd, Nat.reduceSub, Nat.reduceLeDiff, Nat.reduceEqDiff, Nat.reduceLT, Nat.reduceMul, Nat.reduceBNe, List.reduceReplicate, Int.reduceLE, Int.reduceLT, Int.reduceEq, Int.reduceToNat, Int.reduceNeg, *, v119, ztT]); first
  | (refine Le.call (zeA _) fun _ _ _ hy => ?_; obtain ⟨_, rfl⟩ := hy)
  | (refine Le.call (zdU _) fun _ _ _ hy => ?_; obtain ⟨_, rfl⟩ := hy)
  | ((with_reducible refine Le.ret ?_); first | exact rfl | exact Pu.mk)
noncomputable abbrev zdC (s1 : TFunction) (s3 : List ByteArray) (s4 : Bool) (k : List Fr) : Option Res := go T (enF [.tmp 2] []) zrW k ⟨[Z, .box [D.str s1.Name, D.sl false 1 (List.map D.str s1.Params), D.sl false 1 (List.map D.str s1.Locals), D.str s1.Label], Z, .d (D.sl true 1 (List.map D.str s3)), .d (D.bool s4), Z, Z, Z, Z, Z, Z, Z, Z, Z, Z, Z, Z, Z, Z, Z, Z, Z, Z, Z, Z, Z, Z, Z, Z, Z, Z, Z, Z, Z, Z, Z, Z, Z, Z, Z, Z, Z, Z, Z, Z], []⟩
noncomputable abbrev zfB (s1 : TFunction) (s3 : List ByteArray) (s4 : Bool) (k : List Fr) (t : Bool) (x : Option Res) : Prop := Pu (D.bool t) [] x
theorem zfC (s1 : TFunction) (s3 : List ByteArray) (s4 : Bool) (k : List Fr) : Le (zfB s1 s3 s4 k) (zaZ s1 s3 s4) (zdC s1 s3 s4 k) := by
 unfold zaZ zdC zrW
 repeat' (try conv => arg 3; simp (maxSteps := 999999) only [sx, ty, ↓reduceIte, reduceCtorEq, Nat.reduceAdd, Nat.reduceSub, Nat.reduceLeDiff, Nat.reduceEqDiff, Nat.reduceLT, Nat.reduceMul, Nat.reduceBNe, List.reduceReplicate, Int.reduceLE, Int.reduceLT, Int.reduceEq, Int.reduceToNat, Int.reduceNeg, *]); first
  | (refine Le.call (zeu _) fun _ _ _ hy => ?_; obtain ⟨_, rfl⟩ := hy)
  | (refine Le.call (zfj _) fun _ _ _ hy => ?_; obtain ⟨_, rfl⟩ := hy)
  | (refine Le.call (zaA _) fun _ _ _ hy => ?_; obtain ⟨_, rfl⟩ := hy)
  | (refine Le.call (zgn _) fun _ _ _ hy => ?_; obtain ⟨_, rfl⟩ := hy)
  | with_reducible refine Le.bool (fun _ => ?_) (fun _ => ?_)
  | ((with_reducible refine Le.ret ?_); first | exact rfl | exact Pu.mk)
theorem zgL (p0 : TFunction) : Le (fun r x => Pu (D.bool r) [] x) (zbd p0) (zab T 82 [D.agg [D.str p0.Name, D.sl false 1 (List.map D.str p0.Params), D.sl false 1 (List.map D.str p0.Locals), D.str p0.Label]] []) := by
 unfold zbd
 refine Le.enter (g := v82) rfl rfl rfl rfl ?_
 repeat' (try conv => arg 3; simp (maxSteps := 999999) only [sx, ty, ↓reduceIte, reduceCtorEq, Nat.reduceAdd, Nat.reduceSub, Nat.reduceLeDiff, Nat.reduceEqDiff, Nat.reduceLT, Nat.reduceMul, Nat.reduceBNe, List.reduceReplicate, Int.reduceLE, Int.reduceLT, Int.reduceEq, Int.reduceToNat, Int.reduceNeg, *, v82, zxj]); first
  | (refine Le.call (zdX _ _) fun _ _ _ hy => ?_; obtain ⟨_, rfl⟩ := hy)
  | exact zfC _ _ _ _
  | ((with_reducible refine Le.ret ?_); first | exact rfl | exact Pu.mk)
  | with_reducible refine Le.itq (fun _ => ?_) (fun _ => ?_)
noncomputable abbrev zbu (s0 : List TFunction) (s7 : List TFunction) (s8 : Int) (s9 : Int) (k : List Fr) : Option Res := go T (enF [.tmp 4] []) zpH (.lp zpI :: .bl 0 :: .sq (.clr [4,6,7,8,9,10,11,12,13,14,15,16,17]) :: k) ⟨[.d (D.sl false 4 (List.map (TFunction.e false) s0)), .d (D.fn 82 []), Z, Z, Z, Z, Z, .d (D.sl false 4 (List.map (TFunction.e false) s7)), .d (D.int .i64 s8), .d (D.int .i64 s9), Z, Z, Z, Z, Z, Z, Z, Z], []⟩
noncomputable abbrev zbv (s0 : List TFunction) (s7 : List TFunction) (s8 : Int) (k : List Fr) (t : (Unit ⊕ Bool)) (x : Option Res) : Prop := match t with | .inl t => x = bk T (enF [.tmp 4] []) k ⟨[.d (D.sl false 4 (List.map (TFunction.e false) s0)), .d (D.fn 82 []), Z, Z, Z, Z, Z, Z, Z, Z, Z, Z, Z, Z, Z, Z, Z, Z], []⟩ | .inr t => Pu (D.bool t) [] x
theorem zfP (s0 : List TFunction) (s7 : List TFunction) (s8 : Int) : ∀ (s9 : Int) (k : List Fr), Le (zbv s0 s7 s8 k) (zbI s0 s7 s8 s9) (zbu s0 s7 s8 s9 k) := by
 intro s9 k
 refine Le.cp (X := zbu s0 s7 s8 s9) (Q := zbv s0 s7 s8) ?_ k
 refine zbI.partial_correctness s0 s7 s8 (motive := fun s9 r => ∀ k : List Fr, zbv s0 s7 s8 k r (zbu s0 s7 s8 s9 k)) ?_ s9
 intro rec hrec s9
 refine Le.pc ?_
 intro k
 unfold zbu zpH
 repeat' (try conv => arg 3; simp (maxSteps := 999999) only [sx, ty, ↓reduceIte, reduceCtorEq, Nat.reduceAdd, Nat.reduceSub, Nat.reduceLeDiff, Nat.reduceEqDiff, Nat.reduceLT, Nat.reduceMul, Nat.reduceBNe, List.reduceReplicate, Int.reduceLE, Int.reduceLT, Int.reduceEq, Int.reduceToNat, Int.reduceNeg, *, zxh]); first
  | (refine Le.call (zgL _) fun _ _ _ hy => ?_; obtain ⟨_, rfl⟩ := hy)
  | with_reducible refine Le.idx fun _ _ _ _ => ?_
  | with_reducible refine Le.bool (fun _ => ?_) (fun _ => ?_)
  | ((with_reducible refine Le.ret ?_); first | exact rfl | exact Pu.mk)
  | with_reducible refine Le.itq (fun _ => ?_) (fun _ => ?_)
  | exact fun r hr => hrec _ r hr k
theorem zhm (p0 : List TFunction) : Le (fun r x => Pu (D.bool r) [] x) (zbX p0) (zab T 81 [D.sl false 4 (List.map (TFunction.e false) p0), D.fn 82 []] []) := by
 unfold zbX
 refine Le.enter (g := v81) rfl rfl rfl rfl ?_
 repeat' (try conv => arg 3; simp (maxSteps := 999999) only [sx, ty, ↓reduceIte, reduceCtorEq, Nat.reduceAdd, Nat.reduceSub, Nat.reduceLeDiff, Nat.reduceEqDiff, Nat.reduceLT, Nat.reduceMul, Nat.reduceBNe, List.reduceReplicate, Int.reduceLE, Int.reduceLT, Int.reduceEq, Int.reduceToNat, Int.reduceNeg, *, zxh, v81, zxi]); first
  | (refine Le.via (zfP _ _ _ _ _) fun t _ _ hy => ?_; rcases t with t | t <;> (try dsimp only [zbv] at hy; first | subst hy | obtain ⟨_, rfl⟩ := hy))
  | ((with_reducible refine Le.ret ?_); first | exact rfl | exact Pu.mk)
end Go.Vx.RnZ
