/-
  What the plain functions give, the program gives too.
-/
import Derived.Test.YthppbplieikhkaaGreatShA
set_option linter.unusedVariables false
set_option linter.unusedSimpArgs false
namespace Go.Vx.RnZ
set_option linter.unusedVariables false
set_option linter.unusedSimpArgs false
set_option maxRecDepth 10000
set_option maxHeartbeats 2000000
noncomputable abbrev zfN (s0 : List ByteArray) (k : List Fr) : Option Res := go T (enF [.tmp 2] []) znU k ⟨[.d (D.sl false 1 (List.map D.str s0)), Z, Z, Z, Z, Z, Z, Z, Z, Z, Z, Z, Z, Z, Z, Z, Z, Z, Z, Z, Z, Z, Z], []⟩
noncomputable abbrev ziY (s0 : List ByteArray) (k : List Fr) (t : Bool) (x : Option Res) : Prop := Pu (D.bool t) [] x
theorem ziZ (s0 : List ByteArray) (k : List Fr) : Le (ziY s0 k) (zdO s0) (zfN s0 k) := by
 unfold zdO zfN znU
 repeat' (try conv => arg 3; simp (maxSteps := 999999) only [sx, ty, ↓reduceIte, reduceCtorEq, Nat.reduceAdd, Nat.reduceSub, Nat.reduceLeDiff, Nat.reduceEqDiff, Nat.reduceLT, Nat.reduceMul, Nat.reduceBNe, List.reduceReplicate, Int.reduceLE, Int.reduceLT, Int.reduceEq, Int.reduceToNat, Int.reduceNeg, *]); first
  | (refine Le.call (zaA _) fun _ _ _ hy => ?_; obtain ⟨_, rfl⟩ := hy)
  | (refine Le.call (zgn _) fun _ _ _ hy => ?_; obtain ⟨_, rfl⟩ := hy)
  | ((with_reducible refine Le.ret ?_); first | exact rfl | exact Pu.mk)
theorem zmg (p0 : List ByteArray) : Le (fun r x => Pu (D.bool r) [] x) (zfy p0) (zab T 120 [D.sl false 1 (List.map D.str p0)] []) := by
 unfold zfy
 refine Le.enter (g := v120) rfl rfl rfl rfl ?_
 repeat' (try conv => arg 3; simp (maxSteps := 999999) only [sx, ty, ↓reduceIte, reduceCtorEq, Nat.reduceAdd, Nat.reduceSub, Nat.reduceLeDiff, Nat.reduceEqDiff, Nat.reduceLT, Nat.reduceMul, Nat.reduceBNe, List.reduceReplicate, Int.reduceLE, Int.reduceLT, Int.reduceEq, Int.reduceToNat, Int.reduceNeg, *, v120, ztU]); first
  | (refine Le.call (zfj _) fun _ _ _ hy => ?_; obtain ⟨_, rfl⟩ := hy)
  | exact ziZ _ _
  | ((with_reducible refine Le.ret ?_); first | exact rfl | exact Pu.mk)
  | with_reducible refine Le.bool (fun _ => ?_) (fun _ => ?_)
  | with_reducible refine Le.itq (fun _ => ?_) (fun _ => ?_)
theorem zfQ (p0 : TRecordType) : Le (fun r x => Pu (D.bool r) [] x) (zaO p0) (zab T 84 [D.agg [D.str p0.Name, D.sl false 1 (List.map D.str p0.Fields)]] []) := by
 unfold zaO
 refine Le.enter (g := v84) rfl rfl rfl rfl ?_
 repeat' (try conv => arg 3; simp (maxSteps := 999999) only [sx, ty, ↓reduceIte, reduceCtorEq, Nat.reduceAdd, Nat.reduceSub, Nat.reduceLeDiff, Nat.reduceEqDiff, Nat.reduceLT, Nat.reduceMul, Nat.reduceBNe, List.reduceReplicate, Int.reduceLE, Int.reduceLT, Int.reduceEq, Int.reduceToNat, Int.reduceNeg, *, v84, zxm]); first
  | (refine Le.call (zeu _) fun _ _ _ hy => ?_; obtain ⟨_, rfl⟩ := hy)
  | (refine Le.call (zmg _) fun _ _ _ hy => ?_; obtain ⟨_, rfl⟩ := hy)
  | with_reducible refine Le.bool (fun _ => ?_) (fun _ => ?_)
  | ((with_reducible refine Le.ret ?_); first | exact rfl | exact Pu.mk)
noncomputable abbrev zbg (s0 : List TRecordType) (s7 : List TRecordType) (s8 : Int) (s9 : Int) (k : List Fr) : Option Res := go T (enF [.tmp 4] []) zpJ (.lp zpK :: .bl 0 :: .sq (.clr [4,6,7,8,9,10,11,12,13,14,15,16,17]) :: k) ⟨[.d (D.sl false 2 (List.map (TRecordType.e false) s0)), .d (D.fn 84 []), Z, Z, Z, Z, Z, .d (D.sl false 2 (List.map (TRecordType.e false) s7)), .d (D.int .i64 s8), .d (D.int .i64 s9), Z, Z, Z, Z, Z, Z, Z, Z], []⟩
noncomputable abbrev zbh (s0 : List TRecordType) (s7 : List TRecordType) (s8 : Int) (k : List Fr) (t : (Unit ⊕ Bool)) (x : Option Res) : Prop := match t with | .inl t => x = bk T (enF [.tmp 4] []) k ⟨[.d (D.sl false 2 (List.map (TRecordType.e false) s0)), .d (D.fn 84 []), Z, Z, Z, Z, Z, Z, Z, Z, Z, Z, Z, Z, Z, Z, Z, Z], []⟩ | .inr t => Pu (D.bool t) [] x
theorem zfk (s0 : List TRecordType) (s7 : List TRecordType) (s8 : Int) : ∀ (s9 : Int) (k : List Fr), Le (zbh s0 s7 s8 k) (zbt s0 s7 s8 s9) (zbg s0 s7 s8 s9 k) := by
 intro s9 k
 refine Le.cp (X := zbg s0 s7 s8 s9) (Q := zbh s0 s7 s8) ?_ k
 refine zbt.partial_correctness s0 s7 s8 (motive := fun s9 r => ∀ k : List Fr, zbh s0 s7 s8 k r (zbg s0 s7 s8 s9 k)) ?_ s9
 intro rec hrec s9
 refine Le.pc ?_
 intro k
 unfold zbg zpJ
 repeat' (try conv => arg 3; simp (maxSteps := 999999) only [sx, ty, ↓reduceIte, reduceCtorEq, Nat.reduceAdd, Nat.reduceSub, Nat.reduceLeDiff, Nat.reduceEqDiff, Nat.reduceLT, Nat.reduceMul, Nat.reduceBNe, List.reduceReplicate, Int.reduceLE, Int.reduceLT, Int.reduceEq, Int.reduceToNat, Int.reduceNeg, *, zxk]); first
  | (refine Le.call (zfQ _) fun _ _ _ hy => ?_; obtain ⟨_, rfl⟩ := hy)
  | with_reducible refine Le.idx fun _ _ _ _ => ?_
  | with_reducible refine Le.bool (fun _ => ?_) (fun _ => ?_)
  | ((with_reducible refine Le.ret ?_); first | exact rfl | exact Pu.mk)
  | with_reducible refine Le.itq (fun _ => ?_) (fun _ => ?_)
  | exact fun r hr => hrec _ r hr k
theorem zgo (p0 : List TRecordType) : Le (fun r x => Pu (D.bool r) [] x) (zbq p0) (zab T 83 [D.sl false 2 (List.map (TRecordType.e false) p0), D.fn 84 []] []) := by
 unfold zbq
 refine Le.enter (g := v83) rfl rfl rfl rfl ?_
 repeat' (try conv => arg 3; simp (maxSteps := 999999) only [sx, ty, ↓reduceIte, reduceCtorEq, Nat.reduceAdd, Nat.reduceSub, Nat.reduceLeDiff, Nat.reduceEqDiff, Nat.reduceLT, Nat.reduceMul, Nat.reduceBNe, List.reduceReplicate, Int.reduceLE, Int.reduceLT, Int.reduceEq, Int.reduceToNat, Int.reduceNeg, *, zxk, v83, zxl]); first
  | (refine Le.via (zfk _ _ _ _ _) fun t _ _ hy => ?_; rcases t with t | t <;> (try dsimp only [zbh] at hy; first | subst hy | obtain ⟨_, rfl⟩ := hy))
  | ((with_reducible refine Le.ret ?_); first | exact rfl | exact Pu.mk)
noncomputable abbrev zfl (s1 : TScope) (s3 : Bool) (k : List Fr) : Option Res := go T (enF [.tmp 2] []) zrN k ⟨[Z, .box [D.sl false 5 (List.map (TBinding.e false) s1.Vars), D.sl false 4 (List.map (TFunction.e false) s1.Functions), D.sl false 2 (List.map (TRecordType.e false) s1.Types)], Z, .d (D.bool s3), Z, Z, Z, Z, Z, Z, Z, Z, Z, Z, Z, Z, Z, Z, Z, Z, Z, Z, Z, Z, Z, Z, Z, Z, Z, Z, Z, Z, Z, Z, Z, Z, Z, Z, Z, Z, Z, Z, Z, Z, Z, Z, Z, Z, Z], []⟩
noncomputable abbrev zfm (s1 : TScope) (s3 : Bool) (k : List Fr) (t : Bool) (x : Option Res) : Prop := Pu (D.bool t) [] x
theorem zix (s1 : TScope) (s3 : Bool) (k : List Fr) : Le (zfm s1 s3 k) (zbY s1 s3) (zfl s1 s3 k) := by
 unfold zbY zfl zrN
 repeat' (try conv => arg 3; simp (maxSteps := 999999) only [sx, ty, ↓reduceIte, reduceCtorEq, Nat.reduceAdd, Nat.reduceSub, Nat.reduceLeDiff, Nat.reduceEqDiff, Nat.reduceLT, Nat.reduceMul, Nat.reduceBNe, List.reduceReplicate, Int.reduceLE, Int.reduceLT, Int.reduceEq, Int.reduceToNat, Int.reduceNeg, *]); first
  | (refine Le.call (zhU _) fun _ _ _ hy => ?_; obtain ⟨_, rfl⟩ := hy)
  | (refine Le.call (zhm _) fun _ _ _ hy => ?_; obtain ⟨_, rfl⟩ := hy)
  | (refine Le.call (zgo _) fun _ _ _ hy => ?_; obtain ⟨_, rfl⟩ := hy)
  | with_reducible refine Le.bool (fun _ => ?_) (fun _ => ?_)
  | ((with_reducible refine Le.ret ?_); first | exact rfl | exact Pu.mk)
noncomputable abbrev zfn (s1 : TScope) (k : List Fr) : Option Res := go T (enF [.tmp 2] []) zrO k ⟨[Z, .box [D.sl false 5 (List.map (TBinding.e false) s1.Vars), D.sl false 4 (List.map (TFunction.e false) s1.Functions), D.sl false 2 (List.map (TRecordType.e false) s1.Types)], Z, Z, Z, Z, Z, Z, Z, Z, Z, Z, Z, Z, Z, Z, Z, Z, Z, Z, Z, Z, Z, Z, Z, Z, Z, Z, Z, Z, Z, Z, Z, Z, Z, Z, Z, Z, Z, Z, Z, Z, Z, Z, Z, Z, Z, Z, Z], []⟩
noncomputable abbrev ziy (s1 : TScope) (k : List Fr) (t : Bool) (x : Option Res) : Prop := Pu (D.bool t) [] x
theorem ziz (s1 : TScope) (k : List Fr) : Le (ziy s1 k) (zdy s1) (zfn s1 k) := by
 unfold zdy zfn zrO
 repeat' (try conv => arg 3; simp (maxSteps := 999999) only [sx, ty, ↓reduceIte, reduceCtorEq, Nat.reduceAdd, Nat.reduceSub, Nat.reduceLeDiff, Nat.reduceEqDiff, Nat.reduceLT, Nat.reduceMul, Nat.reduceBNe, List.reduceReplicate, Int.reduceLE, Int.reduceLT, Int.reduceEq, Int.reduceToNat, Int.reduceNeg, *]); first
  | (refine Le.call (zgJ _) fun _ _ _ hy => ?_; obtain ⟨_, rfl⟩ := hy)
  | (refine Le.call (zgl _) fun _ _ _ hy => ?_; obtain ⟨_, rfl⟩ := hy)
  | (refine Le.call (zfA _) fun _ _ _ hy => ?_; obtain ⟨_, rfl⟩ := hy)
  | (refine Le.via (zix _ _ _) fun _ _ _ hy => ?_; try dsimp only [zfm] at hy; first | subst hy | obtain ⟨_, rfl⟩ := hy)
  | with_reducible refine Le.bool (fun _ => ?_) (fun _ => ?_)
  | ((with_reducible refine Le.ret ?_); first | exact rfl | exact Pu.mk)
theorem zkL (p0 : TScope) : Le (fun r x => Pu (D.bool r) [] x) (zdT p0) (zab T 34 [D.agg [D.sl false 5 (List.map (TBinding.e false) p0.Vars), D.sl false 4 (List.map (TFunction.e false) p0.Functions), D.sl false 2 (List.map (TRecordType.e false) p0.Types)]] []) := by
 unfold zdT
 refine Le.enter (g := v34) rfl rfl rfl rfl ?_
 repeat' (try conv => arg 3; simp (maxSteps := 999999) only [sx, ty, ↓reduceIte, reduceCtorEq, Nat.reduceAdd, Nat.reduceSub, Nat.reduceLeDiff, Nat.reduceEqDiff, Nat.reduceLT, Nat.reduceMul, Nat.reduceBNe, List.reduceReplicate, Int.reduceLE, Int.reduceLT, Int.reduceEq, Int.reduceToNat, Int.reduceNeg, *, v34, zws]); first
  | exact ziz _ _
  | ((with_reducible refine Le.ret ?_); first | exact rfl | exact Pu.mk)
  | with_reducible refine Le.itq (fun _ => ?_) (fun _ => ?_)
theorem zdV (xs : List TBinding) (h : xs.length ≤ 2147483648) : zab T 90 [.sl false 5 (xs.map (TBinding.e false))] [] = some (.sl true 5 (xs.map (TBinding.e false)), [], []) := by
 cases xs with
 | nil =>
  rw [zaf T (g := v90) rfl rfl rfl _ _ rfl]
  simp (maxSteps := 9999999) (disch := omega) only [vx, px, ty, ↓reduceIte, Bool.false_eq_true, reduceCtorEq, Nat.reduceAdd, Nat.reduceSub, Nat.reduceLeDiff, Nat.reduceEqDiff, Nat.reduceLT, Nat.reduceMul, List.reduceReplicate, and_true, true_and, and_false, false_and, and_self, or_true, true_or, or_false, false_or, not_true_eq_false, not_false_eq_true, ne_eq, vxd, Nat.reduceBNe, most, ifT, ifF, v90, zuY]
 | cons x xs =>
  rw [List.length_cons] at h
  rw [zaf T (g := v90) rfl rfl rfl _ _ rfl]
  simp (maxSteps := 9999999) (disch := omega) only [vx, px, ty, ↓reduceIte, Bool.false_eq_true, reduceCtorEq, Nat.reduceAdd, Nat.reduceSub, Nat.reduceLeDiff, Nat.reduceEqDiff, Nat.reduceLT, Nat.reduceMul, List.reduceReplicate, and_true, true_and, and_false, false_and, and_self, or_true, true_or, or_false, false_or, not_true_eq_false, not_false_eq_true, ne_eq, vxd, Nat.reduceBNe, most, ifT, ifF, v90, zuY]
theorem zba (p0 : List TBinding) : Le (fun r x => Pu (D.sl true 5 (List.map (TBinding.e false) r)) [] x) (zak p0) (zab T 90 [D.sl false 5 (List.map (TBinding.e false) p0)] []) := by
 unfold zak
 refine Le.chk fun h => Le.ret ?_
 exact ⟨_, zdV p0 h⟩
noncomputable abbrev zci (s1 : TScope) (s2 : TScope) (s13 : List TFunction) (s14 : Int) (s3 : TScope) (s15 : Int) (k : List Fr) : Option Res := go T (enF [.cell 2 (.many 3)] []) zpd (.lp zpe :: .bl 0 :: .sq (.clr [0,5,8,9,10,11,12,13,14,15,16,17,18,19,20,21,22,23,24,25,26,27,28,29,30,31,32,33]) :: k) ⟨[Z, .box [D.sl false 5 (List.map (TBinding.e false) s1.Vars), D.sl false 4 (List.map (TFunction.e false) s1.Functions), D.sl false 2 (List.map (TRecordType.e false) s1.Types)], .box [D.sl true 5 (List.map (TBinding.e false) s2.Vars), D.sl true 4 (List.map (TFunction.e true) s2.Functions), D.sl true 2 (List.map (TRecordType.e true) s2.Types)], .box [D.sl true 5 (List.map (TBinding.e false) s3.Vars), D.sl true 4 (List.map (TFunction.e true) s3.Functions), D.sl true 2 (List.map (TRecordType.e true) s3.Types)], Z, Z, Z, Z, Z, Z, Z, Z, .ptr ⟨.slot 1, [], 1⟩, .d (D.sl false 4 (List.map (TFunction.e false) s13)), .d (D.int .i64 s14), .d (D.int .i64 s15), Z, Z, Z, Z, Z, Z, Z, Z, Z, Z, Z, Z, Z, Z, Z, Z, Z, Z, Z, Z, Z, Z, Z, Z, Z, Z, Z, Z, Z, Z, Z, Z, Z, Z, Z, Z, Z], []⟩
noncomputable abbrev zcj (s1 : TScope) (s2 : TScope) (s13 : List TFunction) (s14 : Int) (k : List Fr) (t : TScope) (x : Option Res) : Prop := x = bk T (enF [.cell 2 (.many 3)] []) k ⟨[Z, .box [D.sl false 5 (List.map (TBinding.e false) s1.Vars), D.sl false 4 (List.map (TFunction.e false) s1.Functions), D.sl false 2 (List.map (TRecordType.e false) s1.Types)], .box [D.sl true 5 (List.map (TBinding.e false) s2.Vars), D.sl true 4 (List.map (TFunction.e true) s2.Functions), D.sl true 2 (List.map (TRecordType.e true) s2.Types)], .box [D.sl true 5 (List.map (TBinding.e false) t.Vars), D.sl true 4 (List.map (TFunction.e true) t.Functions), D.sl true 2 (List.map (TRecordType.e true) t.Types)], Z, Z, Z, Z, Z, Z, Z, Z, Z, Z, Z, Z, Z, Z, Z, Z, Z, Z, Z, Z, Z, Z, Z, Z, Z, Z, Z, Z, Z, Z, Z, Z, Z, Z, Z, Z, Z, Z, Z, Z, Z, Z, Z, Z, Z, Z, Z, Z, Z], []⟩
theorem zhn (s1 : TScope) (s2 : TScope) (s13 : List TFunction) (s14 : Int) : ∀ (s3 : TScope) (s15 : Int) (k : List Fr), Le (zcj s1 s2 s13 s14 k) (zbZ s1 s2 s13 s14 s3 s15) (zci s1 s2 s13 s14 s3 s15 k) := by
 intro s3 s15 k
 refine Le.cp (X := zci s1 s2 s13 s14 s3 s15) (Q := zcj s1 s2 s13 s14) ?_ k
 refine zbZ.partial_correctness s1 s2 s13 s14 (motive := fun s3 s15 r => ∀ k : List Fr, zcj s1 s2 s13 s14 k r (zci s1 s2 s13 s14 s3 s15 k)) ?_ s3 s15
 intro rec hrec s3 s15
 refine Le.pc ?_
 intro k
 unfold zci zpd
 try conv => arg 3; simp (maxSteps := 999999) only [sx, ty, ↓reduceIte, reduceCtorEq, Nat.reduceAdd, Nat.reduceSub, Nat.reduceLeDiff, Nat.reduceEqDiff, Nat.reduceLT, Nat.reduceMul, Nat.reduceBNe, List.reduceReplicate, Int.reduceLE, Int.reduceLT, Int.reduceEq, Int.reduceToNat, Int.reduceNeg, *, zhG, zhH]
 refine Le.itq (fun h => ?_) (fun h => ?_)
 ·try conv => arg 3; simp (maxSteps := 999999) only [sx, ty, ↓reduceIte, reduceCtorEq, Nat.reduceAdd, Nat.reduceSub, Nat.reduceLeDiff, Nat.reduceEqDiff, Nat.reduceLT, Nat.reduceMul, Nat.reduceBNe, List.reduceReplicate, Int.reduceLE, Int.reduceLT, Int.reduceEq, Int.reduceToNat, Int.reduceNeg, *, zhG, zhH]
  refine Le.idx fun a17 h_1 h_2 h_3 => ?_
  try conv => arg 3; simp (maxSteps := 999999) only [sx, ty, ↓reduceIte, reduceCtorEq, Nat.reduceAdd, Nat.reduceSub, Nat.reduceLeDiff, Nat.reduceEqDiff, Nat.reduceLT, Nat.reduceMul, Nat.reduceBNe, List.reduceReplicate, Int.reduceLE, Int.reduceLT, Int.reduceEq, Int.reduceToNat, Int.reduceNeg, *, zhG, zhH]
  refine Le.dcall (zaA a17.Params) fun r21 h_4 _ hy => ?_
  obtain ⟨_, rfl⟩ := hy
  try conv => arg 3; simp (maxSteps := 999999) only [sx, ty, ↓reduceIte, reduceCtorEq, Nat.reduceAdd, Nat.reduceSub, Nat.reduceLeDiff, Nat.reduceEqDiff, Nat.reduceLT, Nat.reduceMul, Nat.reduceBNe, List.reduceReplicate, Int.reduceLE, Int.reduceLT, Int.reduceEq, Int.reduceToNat, Int.reduceNeg, *, zhG, zhH]
  refine Le.dcall (zaA a17.Locals) fun r24 h_5 _ hy => ?_
  obtain ⟨_, rfl⟩ := hy
  try conv => arg 3; simp (maxSteps := 999999) only [sx, ty, ↓reduceIte, reduceCtorEq, Nat.reduceAdd, Nat.reduceSub, Nat.reduceLeDiff, Nat.reduceEqDiff, Nat.reduceLT, Nat.reduceMul, Nat.reduceBNe, List.reduceReplicate, Int.reduceLE, Int.reduceLT, Int.reduceEq, Int.reduceToNat, Int.reduceNeg, *, zhG, zhH]
  refine Le.app fun c31 h_6 h_7 => ?_
  replace h_6 : List.map (TFunction.e true) s3.Functions ++ [D.agg [D.str a17.Name, D.sl true 1 (List.map D.str r21), D.sl true 1 (List.map D.str r24), D.str a17.Label]] = List.map (TFunction.e true) c31 := by rw [h_6, List.map_append] <;> rfl
  replace h_7 : s3.Functions.length + 1 ≤ most := h_7
  try conv => arg 3; simp (maxSteps := 999999) only [sx, ty, ↓reduceIte, reduceCtorEq, Nat.reduceAdd, Nat.reduceSub, Nat.reduceLeDiff, Nat.reduceEqDiff, Nat.reduceLT, Nat.reduceMul, Nat.reduceBNe, List.reduceReplicate, Int.reduceLE, Int.reduceLT, Int.reduceEq, Int.reduceToNat, Int.reduceNeg, *, zhG, zhH]
  exact fun r hr => hrec _ _ r hr k
 ·try conv => arg 3; simp (maxSteps := 999999) only [sx, ty, ↓reduceIte, reduceCtorEq, Nat.reduceAdd, Nat.reduceSub, Nat.reduceLeDiff, Nat.reduceEqDiff, Nat.reduceLT, Nat.reduceMul, Nat.reduceBNe, List.reduceReplicate, Int.reduceLE, Int.reduceLT, Int.reduceEq, Int.reduceToNat, Int.reduceNeg, *, zhG, zhH]
  ((with_reducible refine Le.ret ?_); first | exact rfl | exact Pu.mk)
noncomputable abbrev zck (s1 : TScope) (s2 : TScope) (s35 : List TRecordType) (s36 : Int) (s3 : TScope) (s37 : Int) (k : List Fr) : Option Res := go T (enF [.cell 2 (.many 3)] []) zpf (.lp zpg :: .bl 2 :: .sq (.clr [0,1,5,7,8,9,10,11,12,13,14,15,16,17,18,19,20,21,22,23,24,25,26,27,28,29,30,31,32,33,34,35,36,37,38,39,40,41,42,43,44,45,46,47,48,49,50,51]) :: k) ⟨[Z, .box [D.sl false 5 (List.map (TBinding.e false) s1.Vars), D.sl false 4 (List.map (TFunction.e false) s1.Functions), D.sl false 2 (List.map (TRecordType.e false) s1.Types)], .box [D.sl true 5 (List.map (TBinding.e false) s2.Vars), D.sl true 4 (List.map (TFunction.e true) s2.Functions), D.sl true 2 (List.map (TRecordType.e true) s2.Types)], .box [D.sl true 5 (List.map (TBinding.e false) s3.Vars), D.sl true 4 (List.map (TFunction.e true) s3.Functions), D.sl true 2 (List.map (TRecordType.e true) s3.Types)], Z, Z, Z, Z, Z, Z, Z, Z, Z, Z, Z, Z, Z, Z, Z, Z, Z, Z, Z, Z, Z, Z, Z, Z, Z, Z, Z, Z, Z, Z, .ptr ⟨.slot 1, [], 2⟩, .d (D.sl false 2 (List.map (TRecordType.e false) s35)), .d (D.int .i64 s36), .d (D.int .i64 s37), Z, Z, Z, Z, Z, Z, Z, Z, Z, Z, Z, Z, Z, Z, Z], []⟩
noncomputable abbrev zcl (s1 : TScope) (s2 : TScope) (s35 : List TRecordType) (s36 : Int) (k : List Fr) (t : TScope) (x : Option Res) : Prop := x = bk T (enF [.cell 2 (.many 3)] []) k ⟨[Z, Z, .box [D.sl true 5 (List.map (TBinding.e false) s2.Vars), D.sl true 4 (List.map (TFunction.e true) s2.Functions), D.sl true 2 (List.map (TRecordType.e true) s2.Types)], .box [D.sl true 5 (List.map (TBinding.e false) t.Vars), D.sl true 4 (List.map (TFunction.e true) t.Functions), D.sl true 2 (List.map (TRecordType.e true) t.Types)], Z, Z, Z, Z, Z, Z, Z, Z, Z, Z, Z, Z, Z, Z, Z, Z, Z, Z, Z, Z, Z, Z, Z, Z, Z, Z, Z, Z, Z, Z, Z, Z, Z, Z, Z, Z, Z, Z, Z, Z, Z, Z, Z, Z, Z, Z, Z, Z, Z], []⟩
theorem zho (s1 : TScope) (s2 : TScope) (s35 : List TRecordType) (s36 : Int) : ∀ (s3 : TScope) (s37 : Int) (k : List Fr), Le (zcl s1 s2 s35 s36 k) (zca s1 s2 s35 s36 s3 s37) (zck s1 s2 s35 s36 s3 s37 k) := by
 intro s3 s37 k
 refine Le.cp (X := zck s1 s2 s35 s36 s3 s37) (Q := zcl s1 s2 s35 s36) ?_ k
 refine zca.partial_correctness s1 s2 s35 s36 (motive := fun s3 s37 r => ∀ k : List Fr, zcl s1 s2 s35 s36 k r (zck s1 s2 s35 s36 s3 s37 k)) ?_ s3 s37
 intro rec hrec s3 s37
 refine Le.pc ?_
 intro k
 unfold zck zpf
 try conv => arg 3; simp (maxSteps := 999999) only [sx, ty, ↓reduceIte, reduceCtorEq, Nat.reduceAdd, Nat.reduceSub, Nat.reduceLeDiff, Nat.reduceEqDiff, Nat.reduceLT, Nat.reduceMul, Nat.reduceBNe, List.reduceReplicate, Int.reduceLE, Int.reduceLT, Int.reduceEq, Int.reduceToNat, Int.reduceNeg, *, zhG, zhH]
 refine Le.itq (fun h => ?_) (fun h => ?_)
 ·try conv => arg 3; simp (maxSteps := 999999) only [sx, ty, ↓reduceIte, reduceCtorEq, Nat.reduceAdd, Nat.reduceSub, Nat.reduceLeDiff, Nat.reduceEqDiff, Nat.reduceLT, Nat.reduceMul, Nat.reduceBNe, List.reduceReplicate, Int.reduceLE, Int.reduceLT, Int.reduceEq, Int.reduceToNat, Int.reduceNeg, *, zhG, zhH]
  refine Le.idx fun a39 h_1 h_2 h_3 => ?_
  try conv => arg 3; simp (maxSteps := 999999) only [sx, ty, ↓reduceIte, reduceCtorEq, Nat.reduceAdd, Nat.reduceSub, Nat.reduceLeDiff, Nat.reduceEqDiff, Nat.reduceLT, Nat.reduceMul, Nat.reduceBNe, List.reduceReplicate, Int.reduceLE, Int.reduceLT, Int.reduceEq, Int.reduceToNat, Int.reduceNeg, *, zhG, zhH]
  refine Le.call (zaA a39.Fields) fun r43 h_4 _ hy => ?_
  obtain ⟨_, rfl⟩ := hy
  try conv => arg 3; simp (maxSteps := 999999) only [sx, ty, ↓reduceIte, reduceCtorEq, Nat.reduceAdd, Nat.reduceSub, Nat.reduceLeDiff, Nat.reduceEqDiff, Nat.reduceLT, Nat.reduceMul, Nat.reduceBNe, List.reduceReplicate, Int.reduceLE, Int.reduceLT, Int.reduceEq, Int.reduceToNat, Int.reduceNeg, *, zhG, zhH]
  refine Le.app fun c49 h_5 h_6 => ?_
  replace h_5 : List.map (TRecordType.e true) s3.Types ++ [D.agg [D.str a39.Name, D.sl true 1 (List.map D.str r43)]] = List.map (TRecordType.e true) c49 := by rw [h_5, List.map_append] <;> rfl
  replace h_6 : s3.Types.length + 1 ≤ most := h_6
  try conv => arg 3; simp (maxSteps := 999999) only [sx, ty, ↓reduceIte, reduceCtorEq, Nat.reduceAdd, Nat.reduceSub, Nat.reduceLeDiff, Nat.reduceEqDiff, Nat.reduceLT, Nat.reduceMul, Nat.reduceBNe, List.reduceReplicate, Int.reduceLE, Int.reduceLT, Int.reduceEq, Int.reduceToNat, Int.reduceNeg, *, zhG, zhH]
  exact fun r hr => hrec _ _ r hr k
 ·try conv => arg 3; simp (maxSteps := 999999) only [sx, ty, ↓reduceIte, reduceCtorEq, Nat.reduceAdd, Nat.reduceSub, Nat.reduceLeDiff, Nat.reduceEqDiff, Nat.reduceLT, Nat.reduceMul, Nat.reduceBNe, List.reduceReplicate, Int.reduceLE, Int.reduceLT, Int.reduceEq, Int.reduceToNat, Int.reduceNeg, *, zhG, zhH]
  ((with_reducible refine Le.ret ?_); first | exact rfl | exact Pu.mk)
theorem zja (p0 : TScope) : Le (fun r x => Pu (D.agg [D.sl true 5 (List.map (TBinding.e false) r.Vars), D.sl true 4 (List.map (TFunction.e true) r.Functions), D.sl true 2 (List.map (TRecordType.e true) r.Types)]) [] x) (zcW p0) (zab T 37 [D.agg [D.sl false 5 (List.map (TBinding.e false) p0.Vars), D.sl false 4 (List.map (TFunction.e false) p0.Functions), D.sl false 2 (List.map (TRecordType.e false) p0.Types)]] []) := by
 unfold zcW
 refine Le.enter (g := v37) rfl rfl rfl rfl ?_
 repeat' (try conv => arg 3; simp (maxSteps := 999999) only [sx, ty, ↓reduceIte, reduceCtorEq, Nat.reduceAdd, Nat.reduceSub, Nat.reduceLeDiff, Nat.reduceEqDiff, Nat.reduceLT, Nat.reduceMul, Nat.reduceBNe, List.reduceReplicate, Int.reduceLE, Int.reduceLT, Int.reduceEq, Int.reduceToNat, Int.reduceNeg, *, zhG, zhH, v37, zwv]); first
  | (refine Le.call (zba _) fun _ _ _ hy => ?_; obtain ⟨_, rfl⟩ := hy)
  | (refine Le.via (zhn _ _ _ _ _ _ _) fun _ _ _ hy => ?_; try dsimp only [zcj] at hy; first | subst hy | obtain ⟨_, rfl⟩ := hy)
  | (refine Le.via (zho _ _ _ _ _ _ _) fun _ _ _ hy => ?_; try dsimp only [zcl] at hy; first | subst hy | obtain ⟨_, rfl⟩ := hy)
  | ((with_reducible refine Le.ret ?_); first | exact rfl | exact Pu.mk)
theorem zhV (p0 : ByteArray) : Le (fun r x => Pu (D.bool r) [] x) (zcp p0) (zab T 139 [D.str p0] []) := by
 unfold zcp
 refine Le.enter (g := v139) rfl rfl rfl rfl ?_
 try conv => arg 3; simp (maxSteps := 999999) only [sx, ty, ↓reduceIte, reduceCtorEq, Nat.reduceAdd, Nat.reduceSub, Nat.reduceLeDiff, Nat.reduceEqDiff, Nat.reduceLT, Nat.reduceMul, Nat.reduceBNe, List.reduceReplicate, Int.reduceLE, Int.reduceLT, Int.reduceEq, Int.reduceToNat, Int.reduceNeg, *, v139, zue]
 ((with_reducible refine Le.ret ?_); first | exact rfl | exact Pu.mk)
theorem zgM (p0 : ByteArray) (p1 : ByteArray) : Le (fun r x => Pu (D.int .i64 r) [] x) (zbB p0 p1) (zab T 124 [D.str p0, D.str p1] []) := by
 unfold zbB
 refine Le.enter (g := v124) rfl rfl rfl rfl ?_
 repeat' (try conv => arg 3; simp (maxSteps := 999999) only [sx, ty, ↓reduceIte, reduceCtorEq, Nat.reduceAdd, Nat.reduceSub, Nat.reduceLeDiff, Nat.reduceEqDiff, Nat.reduceLT, Nat.reduceMul, Nat.reduceBNe, List.reduceReplicate, Int.reduceLE, Int.reduceLT, Int.reduceEq, Int.reduceToNat, Int.reduceNeg, *, v124, ztZ]); first
  | (refine Le.call (zhV _) fun _ _ _ hy => ?_; obtain ⟨_, rfl⟩ := hy)
  | with_reducible refine Le.bool (fun _ => ?_) (fun _ => ?_)
  | ((with_reducible refine Le.ret ?_); first | exact rfl | exact Pu.mk)
  | with_reducible refine Le.itq (fun _ => ?_) (fun _ => ?_)
theorem zeK (p0 : TBinding) (p1 : ByteArray) : Le (fun r x => x = some (D.int .i64 r, [], [[D.fn 74 []]])) (zbw p0 p1) (zab T 123 [D.agg [D.str p0.Name, D.int .i64 p0.Value.Kind, D.int .i64 p0.Value.Num, D.str p0.Value.Text, D.int .i64 p0.Value.Ref], D.str p1, D.ref 0 0] [[D.fn 74 []]]) := by
 unfold zbw
 refine Le.enter (g := v123) rfl rfl rfl rfl ?_
 repeat' (try conv => arg 3; simp (maxSteps := 999999) only [sx, ty, ↓reduceIte, reduceCtorEq, Nat.reduceAdd, Nat.reduceSub, Nat.reduceLeDiff, Nat.reduceEqDiff, Nat.reduceLT, Nat.reduceMul, Nat.reduceBNe, List.reduceReplicate, Int.reduceLE, Int.reduceLT, Int.reduceEq, Int.reduceToNat, Int.reduceNeg, *, v123, ztY]); first
  | (refine Le.call (zdH _) fun _ _ _ hy => ?_; obtain ⟨_, rfl⟩ := hy)
  | (refine Le.call (zgM _ _) fun _ _ _ hy => ?_; obtain ⟨_, rfl⟩ := hy)
  | ((with_reducible refine Le.ret ?_); first | exact rfl | exact Pu.mk)
noncomputable abbrev zai (s0 : List TBinding) (s1 : ByteArray) (s8 : Int) (s9 : Int) (s10 : Int) (k : List Fr) : Option Res := go T (enF [.tmp 6, .tmp 7] []) zlN (.lp zlO :: .bl 0 :: .sq (.clr [6,7,10,11,12,13,14,15,16,17,18,19,20,21,22,23,24,25,26,27,28,29,30,31,32,33,34]) :: k) ⟨[.d (D.sl false 5 (List.map (TBinding.e false) s0)), .d (D.str s1), .d (D.fn 123 [D.ref 0 0]), Z, Z, Z, Z, Z, .d (D.int .i64 s8), .d (D.int .i64 s9), .d (D.int .i64 s10), Z, Z, Z, Z, Z, Z, Z, Z, Z, Z, Z, Z, Z, Z, Z, Z, Z, Z, Z, Z, Z, Z, Z, Z, Z, Z, Z, Z, Z, Z, Z, Z, Z, Z, Z, Z, Z, Z], [[D.fn 74 []]]⟩
noncomputable abbrev zaj (s0 : List TBinding) (s1 : ByteArray) (s8 : Int) (k : List Fr) (t : Int) (x : Option Res) : Prop := x = bk T (enF [.tmp 6, .tmp 7] []) k ⟨[.d (D.sl false 5 (List.map (TBinding.e false) s0)), .d (D.str s1), .d (D.fn 123 [D.ref 0 0]), Z, Z, Z, Z, Z, .d (D.int .i64 s8), .d (D.int .i64 t), Z, Z, Z, Z, Z, Z, Z, Z, Z, Z, Z, Z, Z, Z, Z, Z, Z, Z, Z, Z, Z, Z, Z, Z, Z, Z, Z, Z, Z, Z, Z, Z, Z, Z, Z, Z, Z, Z, Z], [[D.fn 74 []]]⟩
theorem zbr (s0 : List TBinding) (s1 : ByteArray) (s8 : Int) : ∀ (s9 : Int) (s10 : Int) (k : List Fr), Le (zaj s0 s1 s8 k) (zad s0 s1 s8 s9 s10) (zai s0 s1 s8 s9 s10 k) := by
 intro s9 s10 k
 refine Le.cp (X := zai s0 s1 s8 s9 s10) (Q := zaj s0 s1 s8) ?_ k
 refine zad.partial_correctness s0 s1 s8 (motive := fun s9 s10 r => ∀ k : List Fr, zaj s0 s1 s8 k r (zai s0 s1 s8 s9 s10 k)) ?_ s9 s10
 intro rec hrec s9 s10
 refine Le.pc ?_
 intro k
 unfold zai zlN
 repeat' (try conv => arg 3; simp (maxSteps := 999999) only [sx, ty, ↓reduceIte, reduceCtorEq, Nat.reduceAdd, Nat.reduceSub, Nat.reduceLeDiff, Nat.reduceEqDiff, Nat.reduceLT, Nat.reduceMul, Nat.reduceBNe, List.reduceReplicate, Int.reduceLE, Int.reduceLT, Int.reduceEq, Int.reduceToNat, Int.reduceNeg, *, ztW]); first
  | (refine Le.call (zeK _ _) fun _ _ _ hy => ?_; subst hy)
  | with_reducible refine Le.idx fun _ _ _ _ => ?_
  | ((with_reducible refine Le.ret ?_); first | exact rfl | exact Pu.mk)
  | with_reducible refine Le.itq (fun _ => ?_) (fun _ => ?_)
  | exact fun r hr => hrec _ _ r hr k
theorem zbG (p0 : List TBinding) (p1 : ByteArray) : Le (fun r x => x = some (D.tup [D.int .i64 r.1, D.bool r.2], [], [[D.fn 74 []]])) (zan p0 p1) (zab T 122 [D.sl false 5 (List.map (TBinding.e false) p0), D.str p1, D.fn 123 [D.ref 0 0]] [[D.fn 74 []]]) := by
 unfold zan
 refine Le.enter (g := v122) rfl rfl rfl rfl ?_
 repeat' (try conv => arg 3; simp (maxSteps := 999999) only [sx, ty, ↓reduceIte, reduceCtorEq, Nat.reduceAdd, Nat.reduceSub, Nat.reduceLeDiff, Nat.reduceEqDiff, Nat.reduceLT, Nat.reduceMul, Nat.reduceBNe, List.reduceReplicate, Int.reduceLE, Int.reduceLT, Int.reduceEq, Int.reduceToNat, Int.reduceNeg, *, ztW, v122, ztX]); first
  | (refine Le.via (zbr _ _ _ _ _ _) fun _ _ _ hy => ?_; try dsimp only [zaj] at hy; first | subst hy | obtain ⟨_, rfl⟩ := hy)
  | (refine Le.call (zeK _ _) fun _ _ _ hy => ?_; subst hy)
  | with_reducible refine Le.idx fun _ _ _ _ => ?_
  | ((with_reducible refine Le.ret ?_); first | exact rfl | exact Pu.mk)
  | with_reducible refine Le.itq (fun _ => ?_) (fun _ => ?_)
theorem zfO (p0 : List TBinding) (p1 : ByteArray) : Le (fun r x => Pu (D.tup [D.int .i64 r.1, D.bool r.2]) [] x) (zcs p0 p1) (zab T 92 [D.sl false 5 (List.map (TBinding.e false) p0), D.str p1, D.fn 74 []] []) := by
 unfold zcs
 refine Le.enter (g := v92) rfl rfl rfl rfl ?_
 repeat' (try conv => arg 3; simp (maxSteps := 999999) only [sx, ty, ↓reduceIte, reduceCtorEq, Nat.reduceAdd, Nat.reduceSub, Nat.reduceLeDiff, Nat.reduceEqDiff, Nat.reduceLT, Nat.reduceMul, Nat.reduceBNe, List.reduceReplicate, Int.reduceLE, Int.reduceLT, Int.reduceEq, Int.reduceToNat, Int.reduceNeg, *, v92, zxt]); first
  | (refine Le.call (zbG _ _) fun _ _ _ hy => ?_; subst hy)
  | ((with_reducible refine Le.ret ?_); first | exact rfl | exact Pu.mk)
theorem zdI (a : List TBinding) (i j : Int) : Le (fun r x => Pu (D.sl true 5 (List.map (TBinding.e false) r)) [] x) (zaC a i j) (zab T 94 [D.sl true 5 (List.map (TBinding.e false) a), D.int .i64 i, D.int .i64 j] []) := by
 unfold zaC
 refine Le.chk fun h => Le.ret ?_
 exact ⟨_, by rw [zgu (g := zie 5) T rfl, zlF (TBinding.e false) 5 a i j h]; rfl⟩
theorem zdJ (a : List TBinding) (i : Int) (y : TBinding) : Le (fun r x => Pu (D.sl true 5 (List.map (TBinding.e false) r)) [] x) (zaD a i y) (zab T 125 [D.sl true 5 (List.map (TBinding.e false) a), D.int .i64 i, D.sl true 5 [D.agg [D.str y.Name, D.int .i64 y.Value.Kind, D.int .i64 y.Value.Num, D.str y.Value.Text, D.int .i64 y.Value.Ref]]] []) := by
 unfold zaD
 refine Le.chk fun h => Le.ret ?_
 exact ⟨_, by rw [zgu (g := zid 5) T rfl, zlE (TBinding.e false) 5 a i y (v := D.agg [D.str y.Name, D.int .i64 y.Value.Kind, D.int .i64 y.Value.Num, D.str y.Value.Text, D.int .i64 y.Value.Ref]) rfl h]; rfl⟩
theorem zgN (p0 : List TBinding) (p1 : TBinding) : Le (fun r x => Pu (D.sl true 5 (List.map (TBinding.e false) r)) [] x) (zbC p0 p1) (zab T 95 [D.sl false 5 (List.map (TBinding.e false) p0), D.agg [D.str p1.Name, D.int .i64 p1.Value.Kind, D.int .i64 p1.Value.Num, D.str p1.Value.Text, D.int .i64 p1.Value.Ref], D.fn 74 []] []) := by
 unfold zbC
 refine Le.enter (g := v95) rfl rfl rfl rfl ?_
 try conv => arg 3; simp (maxSteps := 999999) only [sx, ty, ↓reduceIte, reduceCtorEq, Nat.reduceAdd, Nat.reduceSub, Nat.reduceLeDiff, Nat.reduceEqDiff, Nat.reduceLT, Nat.reduceMul, Nat.reduceBNe, List.reduceReplicate, Int.reduceLE, Int.reduceLT, Int.reduceEq, Int.reduceToNat, Int.reduceNeg, *, v95, zlG]
 refine Le.call (zdH p1) fun r14 h _ hy => ?_
 obtain ⟨_, rfl⟩ := hy
 try conv => arg 3; simp (maxSteps := 999999) only [sx, ty, ↓reduceIte, reduceCtorEq, Nat.reduceAdd, Nat.reduceSub, Nat.reduceLeDiff, Nat.reduceEqDiff, Nat.reduceLT, Nat.reduceMul, Nat.reduceBNe, List.reduceReplicate, Int.reduceLE, Int.reduceLT, Int.reduceEq, Int.reduceToNat, Int.reduceNeg, *, v95, zlG]
 refine Le.call (zfO p0 r14) fun r16 h_1 _ hy => ?_
 obtain ⟨_, rfl⟩ := hy
 try conv => arg 3; simp (maxSteps := 999999) only [sx, ty, ↓reduceIte, reduceCtorEq, Nat.reduceAdd, Nat.reduceSub, Nat.reduceLeDiff, Nat.reduceEqDiff, Nat.reduceLT, Nat.reduceMul, Nat.reduceBNe, List.reduceReplicate, Int.reduceLE, Int.reduceLT, Int.reduceEq, Int.reduceToNat, Int.reduceNeg, *, v95, zlG]
 refine Le.call (zba p0) fun r20 h_2 _ hy => ?_
 obtain ⟨_, rfl⟩ := hy
 try conv => arg 3; simp (maxSteps := 999999) only [sx, ty, ↓reduceIte, reduceCtorEq, Nat.reduceAdd, Nat.reduceSub, Nat.reduceLeDiff, Nat.reduceEqDiff, Nat.reduceLT, Nat.reduceMul, Nat.reduceBNe, List.reduceReplicate, Int.reduceLE, Int.reduceLT, Int.reduceEq, Int.reduceToNat, Int.reduceNeg, *, v95, zlG]
 refine Le.bool (fun h_3 => ?_) (fun h_3 => ?_)
 ·try conv => arg 3; simp (maxSteps := 999999) only [sx, ty, ↓reduceIte, reduceCtorEq, Nat.reduceAdd, Nat.reduceSub, Nat.reduceLeDiff, Nat.reduceEqDiff, Nat.reduceLT, Nat.reduceMul, Nat.reduceBNe, List.reduceReplicate, Int.reduceLE, Int.reduceLT, Int.reduceEq, Int.reduceToNat, Int.reduceNeg, *, v95, zlG]
  refine Le.idx fun a25 h_4 h_5 h_6 => ?_
  try conv => arg 3; simp (maxSteps := 999999) only [sx, ty, ↓reduceIte, reduceCtorEq, Nat.reduceAdd, Nat.reduceSub, Nat.reduceLeDiff, Nat.reduceEqDiff, Nat.reduceLT, Nat.reduceMul, Nat.reduceBNe, List.reduceReplicate, Int.reduceLE, Int.reduceLT, Int.reduceEq, Int.reduceToNat, Int.reduceNeg, *, v95, zlG]
  have f : List.set (List.map (TBinding.e false) r20) r16.1.toNat (D.agg [D.str p1.Name, D.int .i64 p1.Value.Kind, D.int .i64 p1.Value.Num, D.str p1.Value.Text, D.int .i64 p1.Value.Ref]) = List.map (TBinding.e false) (setN r20 r16.1.toNat p1) := zmH _ _ _ _ rfl
  try conv => arg 3; simp (maxSteps := 999999) only [sx, ty, ↓reduceIte, reduceCtorEq, Nat.reduceAdd, Nat.reduceSub, Nat.reduceLeDiff, Nat.reduceEqDiff, Nat.reduceLT, Nat.reduceMul, Nat.reduceBNe, List.reduceReplicate, Int.reduceLE, Int.reduceLT, Int.reduceEq, Int.reduceToNat, Int.reduceNeg, *, v95, zlG]
  ((with_reducible refine Le.ret ?_); first | exact rfl | exact Pu.mk)
 ·repeat' (try conv => arg 3; simp (maxSteps := 999999) only [sx, ty, ↓reduceIte, reduceCtorEq, Nat.reduceAdd, Nat.reduceSub, Nat.reduceLeDiff, Nat.reduceEqDiff, Nat.reduceLT, Nat.reduceMul, Nat.reduceBNe, List.reduceReplicate, Int.reduceLE, Int.reduceLT, Int.reduceEq, Int.reduceToNat, Int.reduceNeg, *, v95, zlG]); first
   | (refine Le.call (zdJ _ _ _) fun _ _ _ hy => ?_; obtain ⟨_, rfl⟩ := hy)
   | ((with_reducible refine Le.ret ?_); first | exact rfl | exact Pu.mk)
noncomputable abbrev zeB (s1 : ByteArray) (s5 : TValue) (g0 : List TBinding) (g0_1 : List TFunction) (g0_2 : List TRecordType) (k : List Fr) : Option Res := go T (enF [.tmp 6] []) zrR k ⟨[.d (D.ref 0 0), .d (D.str s1), Z, Z, Z, .box [D.int .i64 s5.Kind, D.int .i64 s5.Num, D.str s5.Text, D.int .i64 s5.Ref], Z, Z, Z, Z, Z, Z, Z, Z, Z, Z, Z, Z, Z, Z, Z, Z, Z, Z, Z, Z, Z, Z, Z, Z, Z, Z, Z, Z, Z, Z, Z, Z, Z, Z, Z, Z, Z, Z, Z, Z, Z, Z, Z, Z, Z, Z, Z, Z, Z, Z], [[D.sl true 5 (List.map (TBinding.e false) g0), D.sl true 4 (List.map (TFunction.e true) g0_1), D.sl true 2 (List.map (TRecordType.e true) g0_2)]]⟩
noncomputable abbrev zhp (s1 : ByteArray) (s5 : TValue) (g0 : List TBinding) (g0_1 : List TFunction) (g0_2 : List TRecordType) (k : List Fr) (t : (Int × (List TBinding))) (x : Option Res) : Prop := x = some (D.int .i64 t.1, [], [[D.sl true 5 (List.map (TBinding.e false) t.2), D.sl true 4 (List.map (TFunction.e true) g0_1), D.sl true 2 (List.map (TRecordType.e true) g0_2)]])
theorem zhq (s1 : ByteArray) (s5 : TValue) (g0 : List TBinding) (g0_1 : List TFunction) (g0_2 : List TRecordType) (k : List Fr) : Le (zhp s1 s5 g0 g0_1 g0_2 k) (zcb s1 s5 g0 g0_1 g0_2) (zeB s1 s5 g0 g0_1 g0_2 k) := by
 unfold zcb zeB zrR
 repeat' (try conv => arg 3; simp (maxSteps := 999999) only [sx, ty, ↓reduceIte, reduceCtorEq, Nat.reduceAdd, Nat.reduceSub, Nat.reduceLeDiff, Nat.reduceEqDiff, Nat.reduceLT, Nat.reduceMul, Nat.reduceBNe, List.reduceReplicate, Int.reduceLE, Int.reduceLT, Int.reduceEq, Int.reduceToNat, Int.reduceNeg, *]); first
  | (refine Le.dcall (zgN _ _) fun _ _ _ hy => ?_; obtain ⟨_, rfl⟩ := hy)
  | ((with_reducible refine Le.ret ?_); first | exact rfl | exact Pu.mk)
theorem zjb (p1 : ByteArray) (p2 : TValue) (g0 : List TBinding) (g0_1 : List TFunction) (g0_2 : List TRecordType) : Le (fun r x => x = some (D.int .i64 r.1, [], [[D.sl true 5 (List.map (TBinding.e false) r.2), D.sl true 4 (List.map (TFunction.e true) g0_1), D.sl true 2 (List.map (TRecordType.e true) g0_2)]])) (zcX p1 p2 g0 g0_1 g0_2) (zab T 38 [D.ref 0 0, D.str p1, D.agg [D.int .i64 p2.Kind, D.int .i64 p2.Num, D.str p2.Text, D.int .i64 p2.Ref]] [[D.sl true 5 (List.map (TBinding.e false) g0), D.sl true 4 (List.map (TFunction.e true) g0_1), D.sl true 2 (List.map (TRecordType.e true) g0_2)]]) := by
 unfold zcX
 refine Le.enter (g := v38) rfl rfl rfl rfl ?_
 repeat' (try conv => arg 3; simp (maxSteps := 999999) only [sx, ty, ↓reduceIte, reduceCtorEq, Nat.reduceAdd, Nat.reduceSub, Nat.reduceLeDiff, Nat.reduceEqDiff, Nat.reduceLT, Nat.reduceMul, Nat.reduceBNe, List.reduceReplicate, Int.reduceLE, Int.reduceLT, Int.reduceEq, Int.reduceToNat, Int.reduceNeg, *, v38, zww]); first
  | (refine Le.call (zfO _ _) fun _ _ _ hy => ?_; obtain ⟨_, rfl⟩ := hy)
  | (refine Le.call (zlk _) fun _ _ _ hy => ?_; obtain ⟨_, rfl⟩ := hy)
  | (refine Le.call (zba _) fun _ _ _ hy => ?_; obtain ⟨_, rfl⟩ := hy)
  | (refine Le.call (zdI _ _ _) fun _ _ _ hy => ?_; obtain ⟨_, rfl⟩ := hy)
  | exact zhq _ _ _ _ _ _
  | with_reducible refine Le.bool (fun _ => ?_) (fun _ => ?_)
  | ((with_reducible refine Le.ret ?_); first | exact rfl | exact Pu.mk)
  | with_reducible refine Le.itq (fun _ => ?_) (fun _ => ?_)
noncomputable abbrev zdZ (s1 : List TBinding) (s6 : TBinding) (s8 : List TBinding) (s9 : Int) (s10 : Int) (g0 : List TBinding) (g0_1 : List TFunction) (g0_2 : List TRecordType) (k : List Fr) : Option Res := go T (enF [.tmp 4] []) zrS k ⟨[.d (D.ref 0 0), .d (D.sl false 5 (List.map (TBinding.e false) s1)), Z, Z, Z, Z, .box [D.str s6.Name, D.int .i64 s6.Value.Kind, D.int .i64 s6.Value.Num, D.str s6.Value.Text, D.int .i64 s6.Value.Ref], Z, .d (D.sl false 5 (List.map (TBinding.e false) s8)), .d (D.int .i64 s9), .d (D.int .i64 s10), Z, Z, Z, Z, Z, Z, Z, Z, Z, Z, Z, Z, Z, Z, Z, Z, Z, Z, Z, Z, Z, Z, Z], [[D.sl true 5 (List.map (TBinding.e false) g0), D.sl true 4 (List.map (TFunction.e true) g0_1), D.sl true 2 (List.map (TRecordType.e true) g0_2)]]⟩
noncomputable abbrev zea (s1 : List TBinding) (s6 : TBinding) (s8 : List TBinding) (s9 : Int) (s10 : Int) (g0 : List TBinding) (g0_1 : List TFunction) (g0_2 : List TRecordType) (k : List Fr) (t : ((Int × ByteArray × TValue × Int × Int × Bool × (List TBinding)) ⊕ (Int × (List TBinding)))) (x : Option Res) : Prop := match t with | .inl t => x = bk T (enF [.tmp 4] []) k ⟨[.d (D.ref 0 0), .d (D.sl false 5 (List.map (TBinding.e false) s1)), Z, Z, Z, Z, .box [D.str s6.Name, D.int .i64 s6.Value.Kind, D.int .i64 s6.Value.Num, D.str s6.Value.Text, D.int .i64 s6.Value.Ref], .d (D.int .i64 t.1), .d (D.sl false 5 (List.map (TBinding.e false) s8)), .d (D.int .i64 s9), .d (D.int .i64 s10), Z, Z, Z, Z, Z, Z, Z, Z, Z, Z, Z, Z, Z, .d (D.ref 0 0), .ptr ⟨.slot 6, [], 0⟩, .d (D.str t.2.1), .ptr ⟨.slot 6, [], 1⟩, .d (D.agg [D.int .i64 t.2.2.1.Kind, D.int .i64 t.2.2.1.Num, D.str t.2.2.1.Text, D.int .i64 t.2.2.1.Ref]), .d (D.int .i64 t.2.2.2.1), .d (D.int .i64 t.2.2.2.2.1), .d (D.bool t.2.2.2.2.2.1), Z, Z], [[D.sl true 5 (List.map (TBinding.e false) t.2.2.2.2.2.2), D.sl true 4 (List.map (TFunction.e true) g0_1), D.sl true 2 (List.map (TRecordType.e true) g0_2)]]⟩ | .inr t => x = some (D.int .i64 t.1, [], [[D.sl true 5 (List.map (TBinding.e false) t.2), D.sl true 4 (List.map (TFunction.e true) g0_1), D.sl true 2 (List.map (TRecordType.e true) g0_2)]])
theorem zgO (s1 : List TBinding) (s6 : TBinding) (s8 : List TBinding) (s9 : Int) (s10 : Int) (g0 : List TBinding) (g0_1 : List TFunction) (g0_2 : List TRecordType) (k : List Fr) : Le (zea s1 s6 s8 s9 s10 g0 g0_1 g0_2 k) (zcv s1 s6 s8 s9 s10 g0 g0_1 g0_2) (zdZ s1 s6 s8 s9 s10 g0 g0_1 g0_2 k) := by
 unfold zcv zdZ zrS
 repeat' (try conv => arg 3; simp (maxSteps := 999999) only [sx, ty, ↓reduceIte, reduceCtorEq, Nat.reduceAdd, Nat.reduceSub, Nat.reduceLeDiff, Nat.reduceEqDiff, Nat.reduceLT, Nat.reduceMul, Nat.reduceBNe, List.reduceReplicate, Int.reduceLE, Int.reduceLT, Int.reduceEq, Int.reduceToNat, Int.reduceNeg, *, zuV]); first
  | (refine Le.call (zjb _ _ _ _ _) fun _ _ _ hy => ?_; subst hy)
  | ((with_reducible refine Le.ret ?_); first | exact rfl | exact Pu.mk)
  | with_reducible refine Le.itq (fun _ => ?_) (fun _ => ?_)
noncomputable abbrev zbL (s1 : List TBinding) (s8 : List TBinding) (s9 : Int) (g0_1 : List TFunction) (g0_2 : List TRecordType) (s10 : Int) (g0 : List TBinding) (k : List Fr) : Option Res := go T (enF [.tmp 4] []) zps (.lp zpt :: .bl 0 :: .sq (.clr [4,6,7,8,9,10,11,12,13,14,15,16,17,18,19,20,21,22,23,24,25,26,27,28,29,30,31,32,33]) :: k) ⟨[.d (D.ref 0 0), .d (D.sl false 5 (List.map (TBinding.e false) s1)), Z, Z, Z, Z, Z, Z, .d (D.sl false 5 (List.map (TBinding.e false) s8)), .d (D.int .i64 s9), .d (D.int .i64 s10), Z, Z, Z, Z, Z, Z, Z, Z, Z, Z, Z, Z, Z, Z, Z, Z, Z, Z, Z, Z, Z, Z, Z], [[D.sl true 5 (List.map (TBinding.e false) g0), D.sl true 4 (List.map (TFunction.e true) g0_1), D.sl true 2 (List.map (TRecordType.e true) g0_2)]]⟩
noncomputable abbrev zbM (s1 : List TBinding) (s8 : List TBinding) (s9 : Int) (g0_1 : List TFunction) (g0_2 : List TRecordType) (k : List Fr) (t : (((List TBinding)) ⊕ (Int × (List TBinding)))) (x : Option Res) : Prop := match t with | .inl t => x = bk T (enF [.tmp 4] []) k ⟨[.d (D.ref 0 0), .d (D.sl false 5 (List.map (TBinding.e false) s1)), Z, Z, Z, Z, Z, Z, Z, Z, Z, Z, Z, Z, Z, Z, Z, Z, Z, Z, Z, Z, Z, Z, Z, Z, Z, Z, Z, Z, Z, Z, Z, Z], [[D.sl true 5 (List.map (TBinding.e false) t), D.sl true 4 (List.map (TFunction.e true) g0_1), D.sl true 2 (List.map (TRecordType.e true) g0_2)]]⟩ | .inr t => x = some (D.int .i64 t.1, [], [[D.sl true 5 (List.map (TBinding.e false) t.2), D.sl true 4 (List.map (TFunction.e true) g0_1), D.sl true 2 (List.map (TRecordType.e true) g0_2)]])
theorem zgP (s1 : List TBinding) (s8 : List TBinding) (s9 : Int) (g0_1 : List TFunction) (g0_2 : List TRecordType) : ∀ (s10 : Int) (g0 : List TBinding) (k : List Fr), Le (zbM s1 s8 s9 g0_1 g0_2 k) (zbD s1 s8 s9 g0_1 g0_2 s10 g0) (zbL s1 s8 s9 g0_1 g0_2 s10 g0 k) := by
 intro s10 g0 k
 refine Le.cp (X := zbL s1 s8 s9 g0_1 g0_2 s10 g0) (Q := zbM s1 s8 s9 g0_1 g0_2) ?_ k
 refine zbD.partial_correctness s1 s8 s9 g0_1 g0_2 (motive := fun s10 g0 r => ∀ k : List Fr, zbM s1 s8 s9 g0_1 g0_2 k r (zbL s1 s8 s9 g0_1 g0_2 s10 g0 k)) ?_ s10 g0
 intro rec hrec s10 g0
 refine Le.pc ?_
 intro k
 unfold zbL zps
 repeat' (try conv => arg 3; simp (maxSteps := 999999) only [sx, ty, ↓reduceIte, reduceCtorEq, Nat.reduceAdd, Nat.reduceSub, Nat.reduceLeDiff, Nat.reduceEqDiff, Nat.reduceLT, Nat.reduceMul, Nat.reduceBNe, List.reduceReplicate, Int.reduceLE, Int.reduceLT, Int.reduceEq, Int.reduceToNat, Int.reduceNeg, *, zuV]); first
  | (refine Le.call (zeu _) fun _ _ _ hy => ?_; obtain ⟨_, rfl⟩ := hy)
  | (refine Le.call (zgZ _) fun _ _ _ hy => ?_; obtain ⟨_, rfl⟩ := hy)
  | (refine Le.via (zgO _ _ _ _ _ _ _ _ _) fun t _ _ hy => ?_; rcases t with t | t <;> (try dsimp only [zea] at hy; first | subst hy | obtain ⟨_, rfl⟩ := hy))
  | with_reducible refine Le.idx fun _ _ _ _ => ?_
  | with_reducible refine Le.bool (fun _ => ?_) (fun _ => ?_)
  | ((with_reducible refine Le.ret ?_); first | exact rfl | exact Pu.mk)
  | with_reducible refine Le.itq (fun _ => ?_) (fun _ => ?_)
  | exact fun r hr => hrec _ _ r hr k
theorem ziA (p1 : List TBinding) (g0 : List TBinding) (g0_1 : List TFunction) (g0_2 : List TRecordType) : Le (fun r x => x = some (D.int .i64 r.1, [], [[D.sl true 5 (List.map (TBinding.e false) r.2), D.sl true 4 (List.map (TFunction.e true) g0_1), D.sl true 2 (List.map (TRecordType.e true) g0_2)]])) (zdz p1 g0 g0_1 g0_2) (zab T 49 [D.ref 0 0, D.sl false 5 (List.map (TBinding.e false) p1)] [[D.sl true 5 (List.map (TBinding.e false) g0), D.sl true 4 (List.map (TFunction.e true) g0_1), D.sl true 2 (List.map (TRecordType.e true) g0_2)]]) := by
 unfold zdz
 refine Le.enter (g := v49) rfl rfl rfl rfl ?_
 repeat' (try conv => arg 3; simp (maxSteps := 999999) only [sx, ty, ↓reduceIte, reduceCtorEq, Nat.reduceAdd, Nat.reduceSub, Nat.reduceLeDiff, Nat.reduceEqDiff, Nat.reduceLT, Nat.reduceMul, Nat.reduceBNe, List.reduceReplicate, Int.reduceLE, Int.reduceLT, Int.reduceEq, Int.reduceToNat, Int.reduceNeg, *, zuV, v49, zwH]); first
  | (refine Le.via (zgP _ _ _ _ _ _ _ _) fun t _ _ hy => ?_; rcases t with t | t <;> (try dsimp only [zbM] at hy; first | subst hy | obtain ⟨_, rfl⟩ := hy))
  | ((with_reducible refine Le.ret ?_); first | exact rfl | exact Pu.mk)
theorem zjc (p0 : TScope) (p1 : List TBinding) : Le (fun r x => Pu (D.tup [D.agg [D.sl true 5 (List.map (TBinding.e false) r.1.Vars), D.sl true 4 (List.map (TFunction.e true) r.1.Functions), D.sl true 2 (List.map (TRecordType.e true) r.1.Types)], D.int .i64 r.2]) [] x) (zdP p0 p1) (zab T 18 [D.agg [D.sl false 5 (List.map (TBinding.e false) p0.Vars), D.sl false 4 (List.map (TFunction.e false) p0.Functions), D.sl false 2 (List.map (TRecordType.e false) p0.Types)], D.sl false 5 (List.map (TBinding.e false) p1)] []) := by
 unfold zdP
 refine Le.enter (g := v18) rfl rfl rfl rfl ?_
 repeat' (try conv => arg 3; simp (maxSteps := 999999) only [sx, ty, ↓reduceIte, reduceCtorEq, Nat.reduceAdd, Nat.reduceSub, Nat.reduceLeDiff, Nat.reduceEqDiff, Nat.reduceLT, Nat.reduceMul, Nat.reduceBNe, List.reduceReplicate, Int.reduceLE, Int.reduceLT, Int.reduceEq, Int.reduceToNat, Int.reduceNeg, *, v18, zwi]); first
  | (refine Le.call (zkL _) fun _ _ _ hy => ?_; obtain ⟨_, rfl⟩ := hy)
  | (refine Le.call (zja _) fun _ _ _ hy => ?_; obtain ⟨_, rfl⟩ := hy)
  | (refine Le.call (ziA _ _ _ _) fun _ _ _ hy => ?_; subst hy)
  | with_reducible refine Le.bool (fun _ => ?_) (fun _ => ?_)
  | ((with_reducible refine Le.ret ?_); first | exact rfl | exact Pu.mk)
  | with_reducible refine Le.itq (fun _ => ?_) (fun _ => ?_)
end Go.Vx.RnZ
