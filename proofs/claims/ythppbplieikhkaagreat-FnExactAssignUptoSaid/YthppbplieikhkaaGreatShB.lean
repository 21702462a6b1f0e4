/-
  What the plain functions give, the program gives too.
-/
import Derived.Test.YthppbplieikhkaaGreatShA
set_option linter.unusedVariables false
set_option linter.unusedSimpArgs false
namespace Go.Vx.AsZ
set_option linter.unusedVariables false
set_option linter.unusedSimpArgs false
set_option maxRecDepth 10000
set_option maxHeartbeats 2000000
noncomputable abbrev zeY (s1 : TScope) (s3 : Bool) (k : List Fr) : Option Res := go T (enF [.tmp 2] []) zrz k ⟨[Z, .box [D.sl false 5 (List.map (TBinding.e false) s1.Vars), D.sl false 4 (List.map (TFunction.e false) s1.Functions), D.sl false 2 (List.map (TRecordType.e false) s1.Types)], Z, .d (D.bool s3), Z, Z, Z, Z, Z, Z, Z, Z, Z, Z, Z, Z, Z, Z, Z, Z, Z, Z, Z, Z, Z, Z, Z, Z, Z, Z, Z, Z, Z, Z, Z, Z, Z, Z, Z, Z, Z, Z, Z, Z, Z, Z, Z, Z, Z], []⟩
noncomputable abbrev zeZ (s1 : TScope) (s3 : Bool) (k : List Fr) (t : Bool) (x : Option Res) : Prop := Pu (D.bool t) [] x
theorem zih (s1 : TScope) (s3 : Bool) (k : List Fr) : Le (zeZ s1 s3 k) (zbT s1 s3) (zeY s1 s3 k) := by
 unfold zbT zeY zrz
 repeat' (try conv => arg 3; simp (maxSteps := 999999) only [sx, ty, ↓reduceIte, reduceCtorEq, Nat.reduceAdd, Nat.reduceSub, Nat.reduceLeDiff, Nat.reduceEqDiff, Nat.reduceLT, Nat.reduceMul, Nat.reduceBNe, List.reduceReplicate, Int.reduceLE, Int.reduceLT, Int.reduceEq, Int.reduceToNat, Int.reduceNeg, *]); first
  | (refine Le.call (zhD _) fun _ _ _ hy => ?_; obtain ⟨_, rfl⟩ := hy)
  | (refine Le.call (zgT _) fun _ _ _ hy => ?_; obtain ⟨_, rfl⟩ := hy)
  | (refine Le.call (zgc _) fun _ _ _ hy => ?_; obtain ⟨_, rfl⟩ := hy)
  | with_reducible refine Le.bool (fun _ => ?_) (fun _ => ?_)
  | ((with_reducible refine Le.ret ?_); first | exact rfl | exact Pu.mk)
noncomputable abbrev zfa (s1 : TScope) (k : List Fr) : Option Res := go T (enF [.tmp 2] []) zrA k ⟨[Z, .box [D.sl false 5 (List.map (TBinding.e false) s1.Vars), D.sl false 4 (List.map (TFunction.e false) s1.Functions), D.sl false 2 (List.map (TRecordType.e false) s1.Types)], Z, Z, Z, Z, Z, Z, Z, Z, Z, Z, Z, Z, Z, Z, Z, Z, Z, Z, Z, Z, Z, Z, Z, Z, Z, Z, Z, Z, Z, Z, Z, Z, Z, Z, Z, Z, Z, Z, Z, Z, Z, Z, Z, Z, Z, Z, Z], []⟩
noncomputable abbrev zii (s1 : TScope) (k : List Fr) (t : Bool) (x : Option Res) : Prop := Pu (D.bool t) [] x
theorem zij (s1 : TScope) (k : List Fr) : Le (zii s1 k) (zdp s1) (zfa s1 k) := by
 unfold zdp zfa zrA
 repeat' (try conv => arg 3; simp (maxSteps := 999999) only [sx, ty, ↓reduceIte, reduceCtorEq, Nat.reduceAdd, Nat.reduceSub, Nat.reduceLeDiff, Nat.reduceEqDiff, Nat.reduceLT, Nat.reduceMul, Nat.reduceBNe, List.reduceReplicate, Int.reduceLE, Int.reduceLT, Int.reduceEq, Int.reduceToNat, Int.reduceNeg, *]); first
  | (refine Le.call (zgv _) fun _ _ _ hy => ?_; obtain ⟨_, rfl⟩ := hy)
  | (refine Le.call (zfZ _) fun _ _ _ hy => ?_; obtain ⟨_, rfl⟩ := hy)
  | (refine Le.call (zfo _) fun _ _ _ hy => ?_; obtain ⟨_, rfl⟩ := hy)
  | (refine Le.via (zih _ _ _) fun _ _ _ hy => ?_; try dsimp only [zeZ] at hy; first | subst hy | obtain ⟨_, rfl⟩ := hy)
  | with_reducible refine Le.bool (fun _ => ?_) (fun _ => ?_)
  | ((with_reducible refine Le.ret ?_); first | exact rfl | exact Pu.mk)
theorem zks (p0 : TScope) : Le (fun r x => Pu (D.bool r) [] x) (zdJ p0) (zab T 34 [D.agg [D.sl false 5 (List.map (TBinding.e false) p0.Vars), D.sl false 4 (List.map (TFunction.e false) p0.Functions), D.sl false 2 (List.map (TRecordType.e false) p0.Types)]] []) := by
 unfold zdJ
 refine Le.enter (g := v34) rfl rfl rfl rfl ?_
 repeat' (try conv => arg 3; simp (maxSteps := 999999) only [sx, ty, ↓reduceIte, reduceCtorEq, Nat.reduceAdd, Nat.reduceSub, Nat.reduceLeDiff, Nat.reduceEqDiff, Nat.reduceLT, Nat.reduceMul, Nat.reduceBNe, List.reduceReplicate, Int.reduceLE, Int.reduceLT, Int.reduceEq, Int.reduceToNat, Int.reduceNeg, *, v34, zvX]); first
  | exact zij _ _
  | ((with_reducible refine Le.ret ?_); first | exact rfl | exact Pu.mk)
  | with_reducible refine Le.itq (fun _ => ?_) (fun _ => ?_)
theorem zdL (xs : List TBinding) (h : xs.length ≤ 2147483648) : zab T 90 [.sl false 5 (xs.map (TBinding.e false))] [] = some (.sl true 5 (xs.map (TBinding.e false)), [], []) := by
 cases xs with
 | nil =>
  rw [zaf T (g := v90) rfl rfl rfl _ _ rfl]
  simp (maxSteps := 9999999) (disch := omega) only [vx, px, ty, ↓reduceIte, Bool.false_eq_true, reduceCtorEq, Nat.reduceAdd, Nat.reduceSub, Nat.reduceLeDiff, Nat.reduceEqDiff, Nat.reduceLT, Nat.reduceMul, List.reduceReplicate, and_true, true_and, and_false, false_and, and_self, or_true, true_or, or_false, false_or, not_true_eq_false, not_false_eq_true, ne_eq, vxd, Nat.reduceBNe, most, ifT, ifF, v90, zuF]
 | cons x xs =>
  rw [List.length_cons] at h
  rw [zaf T (g := v90) rfl rfl rfl _ _ rfl]
  simp (maxSteps := 9999999) (disch := omega) only [vx, px, ty, ↓reduceIte, Bool.false_eq_true, reduceCtorEq, Nat.reduceAdd, Nat.reduceSub, Nat.reduceLeDiff, Nat.reduceEqDiff, Nat.reduceLT, Nat.reduceMul, List.reduceReplicate, and_true, true_and, and_false, false_and, and_self, or_true, true_or, or_false, false_or, not_true_eq_false, not_false_eq_true, ne_eq, vxd, Nat.reduceBNe, most, ifT, ifF, v90, zuF]
theorem zaY (p0 : List TBinding) : Le (fun r x => Pu (D.sl true 5 (List.map (TBinding.e false) r)) [] x) (zak p0) (zab T 90 [D.sl false 5 (List.map (TBinding.e false) p0)] []) := by
 unfold zak
 refine Le.chk fun h => Le.ret ?_
 exact ⟨_, zdL p0 h⟩
noncomputable abbrev zcc (s1 : TScope) (s2 : TScope) (s13 : List TFunction) (s14 : Int) (s3 : TScope) (s15 : Int) (k : List Fr) : Option Res := go T (enF [.cell 2 (.many 3)] []) zoQ (.lp zoR :: .bl 0 :: .sq (.clr [0,5,8,9,10,11,12,13,14,15,16,17,18,19,20,21,22,23,24,25,26,27,28,29,30,31,32,33]) :: k) ⟨[Z, .box [D.sl false 5 (List.map (TBinding.e false) s1.Vars), D.sl false 4 (List.map (TFunction.e false) s1.Functions), D.sl false 2 (List.map (TRecordType.e false) s1.Types)], .box [D.sl true 5 (List.map (TBinding.e false) s2.Vars), D.sl true 4 (List.map (TFunction.e true) s2.Functions), D.sl true 2 (List.map (TRecordType.e true) s2.Types)], .box [D.sl true 5 (List.map (TBinding.e false) s3.Vars), D.sl true 4 (List.map (TFunction.e true) s3.Functions), D.sl true 2 (List.map (TRecordType.e true) s3.Types)], Z, Z, Z, Z, Z, Z, Z, Z, .ptr ⟨.slot 1, [], 1⟩, .d (D.sl false 4 (List.map (TFunction.e false) s13)), .d (D.int .i64 s14), .d (D.int .i64 s15), Z, Z, Z, Z, Z, Z, Z, Z, Z, Z, Z, Z, Z, Z, Z, Z, Z, Z, Z, Z, Z, Z, Z, Z, Z, Z, Z, Z, Z, Z, Z, Z, Z, Z, Z, Z, Z], []⟩
noncomputable abbrev zcd (s1 : TScope) (s2 : TScope) (s13 : List TFunction) (s14 : Int) (k : List Fr) (t : TScope) (x : Option Res) : Prop := x = bk T (enF [.cell 2 (.many 3)] []) k ⟨[Z, .box [D.sl false 5 (List.map (TBinding.e false) s1.Vars), D.sl false 4 (List.map (TFunction.e false) s1.Functions), D.sl false 2 (List.map (TRecordType.e false) s1.Types)], .box [D.sl true 5 (List.map (TBinding.e false) s2.Vars), D.sl true 4 (List.map (TFunction.e true) s2.Functions), D.sl true 2 (List.map (TRecordType.e true) s2.Types)], .box [D.sl true 5 (List.map (TBinding.e false) t.Vars), D.sl true 4 (List.map (TFunction.e true) t.Functions), D.sl true 2 (List.map (TRecordType.e true) t.Types)], Z, Z, Z, Z, Z, Z, Z, Z, Z, Z, Z, Z, Z, Z, Z, Z, Z, Z, Z, Z, Z, Z, Z, Z, Z, Z, Z, Z, Z, Z, Z, Z, Z, Z, Z, Z, Z, Z, Z, Z, Z, Z, Z, Z, Z, Z, Z, Z, Z], []⟩
theorem zgU (s1 : TScope) (s2 : TScope) (s13 : List TFunction) (s14 : Int) : ∀ (s3 : TScope) (s15 : Int) (k : List Fr), Le (zcd s1 s2 s13 s14 k) (zbU s1 s2 s13 s14 s3 s15) (zcc s1 s2 s13 s14 s3 s15 k) := by
 intro s3 s15 k
 refine Le.cp (X := zcc s1 s2 s13 s14 s3 s15) (Q := zcd s1 s2 s13 s14) ?_ k
 refine zbU.partial_correctness s1 s2 s13 s14 (motive := fun s3 s15 r => ∀ k : List Fr, zcd s1 s2 s13 s14 k r (zcc s1 s2 s13 s14 s3 s15 k)) ?_ s3 s15
 intro rec hrec s3 s15
 refine Le.pc ?_
 intro k
 unfold zcc zoQ
 try conv => arg 3; simp (maxSteps := 999999) only [sx, ty, ↓reduceIte, reduceCtorEq, Nat.reduceAdd, Nat.reduceSub, Nat.reduceLeDiff, Nat.reduceEqDiff, Nat.reduceLT, Nat.reduceMul, Nat.reduceBNe, List.reduceReplicate, Int.reduceLE, Int.reduceLT, Int.reduceEq, Int.reduceToNat, Int.reduceNeg, *, zhn, zho]
 refine Le.itq (fun h => ?_) (fun h => ?_)
 ·try conv => arg 3; simp (maxSteps := 999999) only [sx, ty, ↓reduceIte, reduceCtorEq, Nat.reduceAdd, Nat.reduceSub, Nat.reduceLeDiff, Nat.reduceEqDiff, Nat.reduceLT, Nat.reduceMul, Nat.reduceBNe, List.reduceReplicate, Int.reduceLE, Int.reduceLT, Int.reduceEq, Int.reduceToNat, Int.reduceNeg, *, zhn, zho]
  refine Le.idx fun a17 h_1 h_2 h_3 => ?_
  try conv => arg 3; simp (maxSteps := 999999) only [sx, ty, ↓reduceIte, reduceCtorEq, Nat.reduceAdd, Nat.reduceSub, Nat.reduceLeDiff, Nat.reduceEqDiff, Nat.reduceLT, Nat.reduceMul, Nat.reduceBNe, List.reduceReplicate, Int.reduceLE, Int.reduceLT, Int.reduceEq, Int.reduceToNat, Int.reduceNeg, *, zhn, zho]
  refine Le.dcall (zaA a17.Params) fun r21 h_4 _ hy => ?_
  obtain ⟨_, rfl⟩ := hy
  try conv => arg 3; simp (maxSteps := 999999) only [sx, ty, ↓reduceIte, reduceCtorEq, Nat.reduceAdd, Nat.reduceSub, Nat.reduceLeDiff, Nat.reduceEqDiff, Nat.reduceLT, Nat.reduceMul, Nat.reduceBNe, List.reduceReplicate, Int.reduceLE, Int.reduceLT, Int.reduceEq, Int.reduceToNat, Int.reduceNeg, *, zhn, zho]
  refine Le.dcall (zaA a17.Locals) fun r24 h_5 _ hy => ?_
  obtain ⟨_, rfl⟩ := hy
  try conv => arg 3; simp (maxSteps := 999999) only [sx, ty, ↓reduceIte, reduceCtorEq, Nat.reduceAdd, Nat.reduceSub, Nat.reduceLeDiff, Nat.reduceEqDiff, Nat.reduceLT, Nat.reduceMul, Nat.reduceBNe, List.reduceReplicate, Int.reduceLE, Int.reduceLT, Int.reduceEq, Int.reduceToNat, Int.reduceNeg, *, zhn, zho]
  refine Le.app fun c31 h_6 h_7 => ?_
  replace h_6 : List.map (TFunction.e true) s3.Functions ++ [D.agg [D.str a17.Name, D.sl true 1 (List.map D.str r21), D.sl true 1 (List.map D.str r24), D.str a17.Label]] = List.map (TFunction.e true) c31 := by rw [h_6, List.map_append] <;> rfl
  replace h_7 : s3.Functions.length + 1 ≤ most := h_7
  try conv => arg 3; simp (maxSteps := 999999) only [sx, ty, ↓reduceIte, reduceCtorEq, Nat.reduceAdd, Nat.reduceSub, Nat.reduceLeDiff, Nat.reduceEqDiff, Nat.reduceLT, Nat.reduceMul, Nat.reduceBNe, List.reduceReplicate, Int.reduceLE, Int.reduceLT, Int.reduceEq, Int.reduceToNat, Int.reduceNeg, *, zhn, zho]
  exact fun r hr => hrec _ _ r hr k
 ·try conv => arg 3; simp (maxSteps := 999999) only [sx, ty, ↓reduceIte, reduceCtorEq, Nat.reduceAdd, Nat.reduceSub, Nat.reduceLeDiff, Nat.reduceEqDiff, Nat.reduceLT, Nat.reduceMul, Nat.reduceBNe, List.reduceReplicate, Int.reduceLE, Int.reduceLT, Int.reduceEq, Int.reduceToNat, Int.reduceNeg, *, zhn, zho]
  ((with_reducible refine Le.ret ?_); first | exact rfl | exact Pu.mk)
noncomputable abbrev zce (s1 : TScope) (s2 : TScope) (s35 : List TRecordType) (s36 : Int) (s3 : TScope) (s37 : Int) (k : List Fr) : Option Res := go T (enF [.cell 2 (.many 3)] []) zoS (.lp zoT :: .bl 2 :: .sq (.clr [0,1,5,7,8,9,10,11,12,13,14,15,16,17,18,19,20,21,22,23,24,25,26,27,28,29,30,31,32,33,34,35,36,37,38,39,40,41,42,43,44,45,46,47,48,49,50,51]) :: k) ⟨[Z, .box [D.sl false 5 (List.map (TBinding.e false) s1.Vars), D.sl false 4 (List.map (TFunction.e false) s1.Functions), D.sl false 2 (List.map (TRecordType.e false) s1.Types)], .box [D.sl true 5 (List.map (TBinding.e false) s2.Vars), D.sl true 4 (List.map (TFunction.e true) s2.Functions), D.sl true 2 (List.map (TRecordType.e true) s2.Types)], .box [D.sl true 5 (List.map (TBinding.e false) s3.Vars), D.sl true 4 (List.map (TFunction.e true) s3.Functions), D.sl true 2 (List.map (TRecordType.e true) s3.Types)], Z, Z, Z, Z, Z, Z, Z, Z, Z, Z, Z, Z, Z, Z, Z, Z, Z, Z, Z, Z, Z, Z, Z, Z, Z, Z, Z, Z, Z, Z, .ptr ⟨.slot 1, [], 2⟩, .d (D.sl false 2 (List.map (TRecordType.e false) s35)), .d (D.int .i64 s36), .d (D.int .i64 s37), Z, Z, Z, Z, Z, Z, Z, Z, Z, Z, Z, Z, Z, Z, Z], []⟩
noncomputable abbrev zcf (s1 : TScope) (s2 : TScope) (s35 : List TRecordType) (s36 : Int) (k : List Fr) (t : TScope) (x : Option Res) : Prop := x = bk T (enF [.cell 2 (.many 3)] []) k ⟨[Z, Z, .box [D.sl true 5 (List.map (TBinding.e false) s2.Vars), D.sl true 4 (List.map (TFunction.e true) s2.Functions), D.sl true 2 (List.map (TRecordType.e true) s2.Types)], .box [D.sl true 5 (List.map (TBinding.e false) t.Vars), D.sl true 4 (List.map (TFunction.e true) t.Functions), D.sl true 2 (List.map (TRecordType.e true) t.Types)], Z, Z, Z, Z, Z, Z, Z, Z, Z, Z, Z, Z, Z, Z, Z, Z, Z, Z, Z, Z, Z, Z, Z, Z, Z, Z, Z, Z, Z, Z, Z, Z, Z, Z, Z, Z, Z, Z, Z, Z, Z, Z, Z, Z, Z, Z, Z, Z, Z], []⟩
theorem zgV (s1 : TScope) (s2 : TScope) (s35 : List TRecordType) (s36 : Int) : ∀ (s3 : TScope) (s37 : Int) (k : List Fr), Le (zcf s1 s2 s35 s36 k) (zbV s1 s2 s35 s36 s3 s37) (zce s1 s2 s35 s36 s3 s37 k) := by
 intro s3 s37 k
 refine Le.cp (X := zce s1 s2 s35 s36 s3 s37) (Q := zcf s1 s2 s35 s36) ?_ k
 refine zbV.partial_correctness s1 s2 s35 s36 (motive := fun s3 s37 r => ∀ k : List Fr, zcf s1 s2 s35 s36 k r (zce s1 s2 s35 s36 s3 s37 k)) ?_ s3 s37
 intro rec hrec s3 s37
 refine Le.pc ?_
 intro k
 unfold zce zoS
 try conv => arg 3; simp (maxSteps := 999999) only [sx, ty, ↓reduceIte, reduceCtorEq, Nat.reduceAdd, Nat.reduceSub, Nat.reduceLeDiff, Nat.reduceEqDiff, Nat.reduceLT, Nat.reduceMul, Nat.reduceBNe, List.reduceReplicate, Int.reduceLE, Int.reduceLT, Int.reduceEq, Int.reduceToNat, Int.reduceNeg, *, zhn, zho]
 refine Le.itq (fun h => ?_) (fun h => ?_)
 ·try conv => arg 3; simp (maxSteps := 999999) only [sx, ty, ↓reduceIte, reduceCtorEq, Nat.reduceAdd, Nat.reduceSub, Nat.reduceLeDiff, Nat.reduceEqDiff, Nat.reduceLT, Nat.reduceMul, Nat.reduceBNe, List.reduceReplicate, Int.reduceLE, Int.reduceLT, Int.reduceEq, Int.reduceToNat, Int.reduceNeg, *, zhn, zho]
  refine Le.idx fun a39 h_1 h_2 h_3 => ?_
  try conv => arg 3; simp (maxSteps := 999999) only [sx, ty, ↓reduceIte, reduceCtorEq, Nat.reduceAdd, Nat.reduceSub, Nat.reduceLeDiff, Nat.reduceEqDiff, Nat.reduceLT, Nat.reduceMul, Nat.reduceBNe, List.reduceReplicate, Int.reduceLE, Int.reduceLT, Int.reduceEq, Int.reduceToNat, Int.reduceNeg, *, zhn, zho]
  refine Le.call (zaA a39.Fields) fun r43 h_4 _ hy => ?_
  obtain ⟨_, rfl⟩ := hy
  try conv => arg 3; simp (maxSteps := 999999) only [sx, ty, ↓reduceIte, reduceCtorEq, Nat.reduceAdd, Nat.reduceSub, Nat.reduceLeDiff, Nat.reduceEqDiff, Nat.reduceLT, Nat.reduceMul, Nat.reduceBNe, List.reduceReplicate, Int.reduceLE, Int.reduceLT, Int.reduceEq, Int.reduceToNat, Int.reduceNeg, *, zhn, zho]
  refine Le.app fun c49 h_5 h_6 => ?_
  replace h_5 : List.map (TRecordType.e true) s3.Types ++ [D.agg [D.str a39.Name, D.sl true 1 (List.map D.str r43)]] = List.map (TRecordType.e true) c49 := by rw [h_5, List.map_append] <;> rfl
  replace h_6 : s3.Types.length + 1 ≤ most := h_6
  try conv => arg 3; simp (maxSteps := 999999) only [sx, ty, ↓reduceIte, reduceCtorEq, Nat.reduceAdd, Nat.reduceSub, Nat.reduceLeDiff, Nat.reduceEqDiff, Nat.reduceLT, Nat.reduceMul, Nat.reduceBNe, List.reduceReplicate, Int.reduceLE, Int.reduceLT, Int.reduceEq, Int.reduceToNat, Int.reduceNeg, *, zhn, zho]
  exact fun r hr => hrec _ _ r hr k
 ·try conv => arg 3; simp (maxSteps := 999999) only [sx, ty, ↓reduceIte, reduceCtorEq, Nat.reduceAdd, Nat.reduceSub, Nat.reduceLeDiff, Nat.reduceEqDiff, Nat.reduceLT, Nat.reduceMul, Nat.reduceBNe, List.reduceReplicate, Int.reduceLE, Int.reduceLT, Int.reduceEq, Int.reduceToNat, Int.reduceNeg, *, zhn, zho]
  ((with_reducible refine Le.ret ?_); first | exact rfl | exact Pu.mk)
theorem ziF (p0 : TScope) : Le (fun r x => Pu (D.agg [D.sl true 5 (List.map (TBinding.e false) r.Vars), D.sl true 4 (List.map (TFunction.e true) r.Functions), D.sl true 2 (List.map (TRecordType.e true) r.Types)]) [] x) (zcP p0) (zab T 37 [D.agg [D.sl false 5 (List.map (TBinding.e false) p0.Vars), D.sl false 4 (List.map (TFunction.e false) p0.Functions), D.sl false 2 (List.map (TRecordType.e false) p0.Types)]] []) := by
 unfold zcP
 refine Le.enter (g := v37) rfl rfl rfl rfl ?_
 repeat' (try conv => arg 3; simp (maxSteps := 999999) only [sx, ty, ↓reduceIte, reduceCtorEq, Nat.reduceAdd, Nat.reduceSub, Nat.reduceLeDiff, Nat.reduceEqDiff, Nat.reduceLT, Nat.reduceMul, Nat.reduceBNe, List.reduceReplicate, Int.reduceLE, Int.reduceLT, Int.reduceEq, Int.reduceToNat, Int.reduceNeg, *, zhn, zho, v37, zwa]); first
  | (refine Le.call (zaY _) fun _ _ _ hy => ?_; obtain ⟨_, rfl⟩ := hy)
  | (refine Le.via (zgU _ _ _ _ _ _ _) fun _ _ _ hy => ?_; try dsimp only [zcd] at hy; first | subst hy | obtain ⟨_, rfl⟩ := hy)
  | (refine Le.via (zgV _ _ _ _ _ _ _) fun _ _ _ hy => ?_; try dsimp only [zcf] at hy; first | subst hy | obtain ⟨_, rfl⟩ := hy)
  | ((with_reducible refine Le.ret ?_); first | exact rfl | exact Pu.mk)
theorem zhE (p0 : ByteArray) : Le (fun r x => Pu (D.bool r) [] x) (zcj p0) (zab T 139 [D.str p0] []) := by
 unfold zcj
 refine Le.enter (g := v139) rfl rfl rfl rfl ?_
 try conv => arg 3; simp (maxSteps := 999999) only [sx, ty, ↓reduceIte, reduceCtorEq, Nat.reduceAdd, Nat.reduceSub, Nat.reduceLeDiff, Nat.reduceEqDiff, Nat.reduceLT, Nat.reduceMul, Nat.reduceBNe, List.reduceReplicate, Int.reduceLE, Int.reduceLT, Int.reduceEq, Int.reduceToNat, Int.reduceNeg, *, v139, ztN]
 ((with_reducible refine Le.ret ?_); first | exact rfl | exact Pu.mk)
theorem zgy (p0 : ByteArray) (p1 : ByteArray) : Le (fun r x => Pu (D.int .i64 r) [] x) (zbA p0 p1) (zab T 124 [D.str p0, D.str p1] []) := by
 unfold zbA
 refine Le.enter (g := v124) rfl rfl rfl rfl ?_
 repeat' (try conv => arg 3; simp (maxSteps := 999999) only [sx, ty, ↓reduceIte, reduceCtorEq, Nat.reduceAdd, Nat.reduceSub, Nat.reduceLeDiff, Nat.reduceEqDiff, Nat.reduceLT, Nat.reduceMul, Nat.reduceBNe, List.reduceReplicate, Int.reduceLE, Int.reduceLT, Int.reduceEq, Int.reduceToNat, Int.reduceNeg, *, v124, ztI]); first
  | (refine Le.call (zhE _) fun _ _ _ hy => ?_; obtain ⟨_, rfl⟩ := hy)
  | with_reducible refine Le.bool (fun _ => ?_) (fun _ => ?_)
  | ((with_reducible refine Le.ret ?_); first | exact rfl | exact Pu.mk)
  | with_reducible refine Le.itq (fun _ => ?_) (fun _ => ?_)
theorem zew (p0 : TBinding) (p1 : ByteArray) : Le (fun r x => x = some (D.int .i64 r, [], [[D.fn 74 []]])) (zbv p0 p1) (zab T 123 [D.agg [D.str p0.Name, D.int .i64 p0.Value.Kind, D.int .i64 p0.Value.Num, D.str p0.Value.Text, D.int .i64 p0.Value.Ref], D.str p1, D.ref 0 0] [[D.fn 74 []]]) := by
 unfold zbv
 refine Le.enter (g := v123) rfl rfl rfl rfl ?_
 repeat' (try conv => arg 3; simp (maxSteps := 999999) only [sx, ty, ↓reduceIte, reduceCtorEq, Nat.reduceAdd, Nat.reduceSub, Nat.reduceLeDiff, Nat.reduceEqDiff, Nat.reduceLT, Nat.reduceMul, Nat.reduceBNe, List.reduceReplicate, Int.reduceLE, Int.reduceLT, Int.reduceEq, Int.reduceToNat, Int.reduceNeg, *, v123, ztH]); first
  | (refine Le.call (zdy _) fun _ _ _ hy => ?_; obtain ⟨_, rfl⟩ := hy)
  | (refine Le.call (zgy _ _) fun _ _ _ hy => ?_; obtain ⟨_, rfl⟩ := hy)
  | ((with_reducible refine Le.ret ?_); first | exact rfl | exact Pu.mk)
noncomputable abbrev zai (s0 : List TBinding) (s1 : ByteArray) (s8 : Int) (s9 : Int) (s10 : Int) (k : List Fr) : Option Res := go T (enF [.tmp 6, .tmp 7] []) zlu (.lp zlv :: .bl 0 :: .sq (.clr [6,7,10,11,12,13,14,15,16,17,18,19,20,21,22,23,24,25,26,27,28,29,30,31,32,33,34]) :: k) ⟨[.d (D.sl false 5 (List.map (TBinding.e false) s0)), .d (D.str s1), .d (D.fn 123 [D.ref 0 0]), Z, Z, Z, Z, Z, .d (D.int .i64 s8), .d (D.int .i64 s9), .d (D.int .i64 s10), Z, Z, Z, Z, Z, Z, Z, Z, Z, Z, Z, Z, Z, Z, Z, Z, Z, Z, Z, Z, Z, Z, Z, Z, Z, Z, Z, Z, Z, Z, Z, Z, Z, Z, Z, Z, Z, Z], [[D.fn 74 []]]⟩
noncomputable abbrev zaj (s0 : List TBinding) (s1 : ByteArray) (s8 : Int) (k : List Fr) (t : Int) (x : Option Res) : Prop := x = bk T (enF [.tmp 6, .tmp 7] []) k ⟨[.d (D.sl false 5 (List.map (TBinding.e false) s0)), .d (D.str s1), .d (D.fn 123 [D.ref 0 0]), Z, Z, Z, Z, Z, .d (D.int .i64 s8), .d (D.int .i64 t), Z, Z, Z, Z, Z, Z, Z, Z, Z, Z, Z, Z, Z, Z, Z, Z, Z, Z, Z, Z, Z, Z, Z, Z, Z, Z, Z, Z, Z, Z, Z, Z, Z, Z, Z, Z, Z, Z, Z], [[D.fn 74 []]]⟩
theorem zbp (s0 : List TBinding) (s1 : ByteArray) (s8 : Int) : ∀ (s9 : Int) (s10 : Int) (k : List Fr), Le (zaj s0 s1 s8 k) (zad s0 s1 s8 s9 s10) (zai s0 s1 s8 s9 s10 k) := by
 intro s9 s10 k
 refine Le.cp (X := zai s0 s1 s8 s9 s10) (Q := zaj s0 s1 s8) ?_ k
 refine zad.partial_correctness s0 s1 s8 (motive := fun s9 s10 r => ∀ k : List Fr, zaj s0 s1 s8 k r (zai s0 s1 s8 s9 s10 k)) ?_ s9 s10
 intro rec hrec s9 s10
 refine Le.pc ?_
 intro k
 unfold zai zlu
 repeat' (try conv => arg 3; simp (maxSteps := 999999) only [sx, ty, ↓reduceIte, reduceCtorEq, Nat.reduceAdd, Nat.reduceSub, Nat.reduceLeDiff, Nat.reduceEqDiff, Nat.reduceLT, Nat.reduceMul, Nat.reduceBNe, List.reduceReplicate, Int.reduceLE, Int.reduceLT, Int.reduceEq, Int.reduceToNat, Int.reduceNeg, *, ztF]); first
  | (refine Le.call (zew _ _) fun _ _ _ hy => ?_; subst hy)
  | with_reducible refine Le.idx fun _ _ _ _ => ?_
  | ((with_reducible refine Le.ret ?_); first | exact rfl | exact Pu.mk)
  | with_reducible refine Le.itq (fun _ => ?_) (fun _ => ?_)
  | exact fun r hr => hrec _ _ r hr k
theorem zbE (p0 : List TBinding) (p1 : ByteArray) : Le (fun r x => x = some (D.tup [D.int .i64 r.1, D.bool r.2], [], [[D.fn 74 []]])) (zam p0 p1) (zab T 122 [D.sl false 5 (List.map (TBinding.e false) p0), D.str p1, D.fn 123 [D.ref 0 0]] [[D.fn 74 []]]) := by
 unfold zam
 refine Le.enter (g := v122) rfl rfl rfl rfl ?_
 repeat' (try conv => arg 3; simp (maxSteps := 999999) only [sx, ty, ↓reduceIte, reduceCtorEq, Nat.reduceAdd, Nat.reduceSub, Nat.reduceLeDiff, Nat.reduceEqDiff, Nat.reduceLT, Nat.reduceMul, Nat.reduceBNe, List.reduceReplicate, Int.reduceLE, Int.reduceLT, Int.reduceEq, Int.reduceToNat, Int.reduceNeg, *, ztF, v122, ztG]); first
  | (refine Le.via (zbp _ _ _ _ _ _) fun _ _ _ hy => ?_; try dsimp only [zaj] at hy; first | subst hy | obtain ⟨_, rfl⟩ := hy)
  | (refine Le.call (zew _ _) fun _ _ _ hy => ?_; subst hy)
  | with_reducible refine Le.idx fun _ _ _ _ => ?_
  | ((with_reducible refine Le.ret ?_); first | exact rfl | exact Pu.mk)
  | with_reducible refine Le.itq (fun _ => ?_) (fun _ => ?_)
theorem zfC (p0 : List TBinding) (p1 : ByteArray) : Le (fun r x => Pu (D.tup [D.int .i64 r.1, D.bool r.2]) [] x) (zcm p0 p1) (zab T 92 [D.sl false 5 (List.map (TBinding.e false) p0), D.str p1, D.fn 74 []] []) := by
 unfold zcm
 refine Le.enter (g := v92) rfl rfl rfl rfl ?_
 repeat' (try conv => arg 3; simp (maxSteps := 999999) only [sx, ty, ↓reduceIte, reduceCtorEq, Nat.reduceAdd, Nat.reduceSub, Nat.reduceLeDiff, Nat.reduceEqDiff, Nat.reduceLT, Nat.reduceMul, Nat.reduceBNe, List.reduceReplicate, Int.reduceLE, Int.reduceLT, Int.reduceEq, Int.reduceToNat, Int.reduceNeg, *, v92, zwX]); first
  | (refine Le.call (zbE _ _) fun _ _ _ hy => ?_; subst hy)
  | ((with_reducible refine Le.ret ?_); first | exact rfl | exact Pu.mk)
theorem zdz (a : List TBinding) (i j : Int) : Le (fun r x => Pu (D.sl true 5 (List.map (TBinding.e false) r)) [] x) (zaC a i j) (zab T 94 [D.sl true 5 (List.map (TBinding.e false) a), D.int .i64 i, D.int .i64 j] []) := by
 unfold zaC
 refine Le.chk fun h => Le.ret ?_
 exact ⟨_, by rw [zgh (g := zhO 5) T rfl, zlm (TBinding.e false) 5 a i j h]; rfl⟩
theorem zdA (a : List TBinding) (i : Int) (y : TBinding) : Le (fun r x => Pu (D.sl true 5 (List.map (TBinding.e false) r)) [] x) (zaD a i y) (zab T 125 [D.sl true 5 (List.map (TBinding.e false) a), D.int .i64 i, D.sl true 5 [D.agg [D.str y.Name, D.int .i64 y.Value.Kind, D.int .i64 y.Value.Num, D.str y.Value.Text, D.int .i64 y.Value.Ref]]] []) := by
 unfold zaD
 refine Le.chk fun h => Le.ret ?_
 exact ⟨_, by rw [zgh (g := zhN 5) T rfl, zll (TBinding.e false) 5 a i y (v := D.agg [D.str y.Name, D.int .i64 y.Value.Kind, D.int .i64 y.Value.Num, D.str y.Value.Text, D.int .i64 y.Value.Ref]) rfl h]; rfl⟩
theorem zgz (p0 : List TBinding) (p1 : TBinding) : Le (fun r x => Pu (D.sl true 5 (List.map (TBinding.e false) r)) [] x) (zbB p0 p1) (zab T 95 [D.sl false 5 (List.map (TBinding.e false) p0), D.agg [D.str p1.Name, D.int .i64 p1.Value.Kind, D.int .i64 p1.Value.Num, D.str p1.Value.Text, D.int .i64 p1.Value.Ref], D.fn 74 []] []) := by
 unfold zbB
 refine Le.enter (g := v95) rfl rfl rfl rfl ?_
 try conv => arg 3; simp (maxSteps := 999999) only [sx, ty, ↓reduceIte, reduceCtorEq, Nat.reduceAdd, Nat.reduceSub, Nat.reduceLeDiff, Nat.reduceEqDiff, Nat.reduceLT, Nat.reduceMul, Nat.reduceBNe, List.reduceReplicate, Int.reduceLE, Int.reduceLT, Int.reduceEq, Int.reduceToNat, Int.reduceNeg, *, v95, zln]
 refine Le.call (zdy p1) fun r14 h _ hy => ?_
 obtain ⟨_, rfl⟩ := hy
 try conv => arg 3; simp (maxSteps := 999999) only [sx, ty, ↓reduceIte, reduceCtorEq, Nat.reduceAdd, Nat.reduceSub, Nat.reduceLeDiff, Nat.reduceEqDiff, Nat.reduceLT, Nat.reduceMul, Nat.reduceBNe, List.reduceReplicate, Int.reduceLE, Int.reduceLT, Int.reduceEq, Int.reduceToNat, Int.reduceNeg, *, v95, zln]
 refine Le.call (zfC p0 r14) fun r16 h_1 _ hy => ?_
 obtain ⟨_, rfl⟩ := hy
 try conv => arg 3; simp (maxSteps := 999999) only [sx, ty, ↓reduceIte, reduceCtorEq, Nat.reduceAdd, Nat.reduceSub, Nat.reduceLeDiff, Nat.reduceEqDiff, Nat.reduceLT, Nat.reduceMul, Nat.reduceBNe, List.reduceReplicate, Int.reduceLE, Int.reduceLT, Int.reduceEq, Int.reduceToNat, Int.reduceNeg, *, v95, zln]
 refine Le.call (zaY p0) fun r20 h_2 _ hy => ?_
 obtain ⟨_, rfl⟩ := hy
 try conv => arg 3; simp (maxSteps := 999999) only [sx, ty, ↓reduceIte, reduceCtorEq, Nat.reduceAdd, Nat.reduceSub, Nat.reduceLeDiff, Nat.reduceEqDiff, Nat.reduceLT, Nat.reduceMul, Nat.reduceBNe, List.reduceReplicate, Int.reduceLE, Int.reduceLT, Int.reduceEq, Int.reduceToNat, Int.reduceNeg, *, v95, zln]
 refine Le.bool (fun h_3 => ?_) (fun h_3 => ?_)
 ·try conv => arg 3; simp (maxSteps := 999999) only [sx, ty, ↓reduceIte, reduceCtorEq, Nat.reduceAdd, Nat.reduceSub, Nat.reduceLeDiff, Nat.reduceEqDiff, Nat.reduceLT, Nat.reduceMul, Nat.reduceBNe, List.reduceReplicate, Int.reduceLE, Int.reduceLT, Int.reduceEq, Int.reduceToNat, Int.reduceNeg, *, v95, zln]
  refine Le.idx fun a25 h_4 h_5 h_6 => ?_
  try conv => arg 3; simp (maxSteps := 999999) only [sx, ty, ↓reduceIte, reduceCtorEq, Nat.reduceAdd, Nat.reduceSub, Nat.reduceLeDiff, Nat.reduceEqDiff, Nat.reduceLT, Nat.reduceMul, Nat.reduceBNe, List.reduceReplicate, Int.reduceLE, Int.reduceLT, Int.reduceEq, Int.reduceToNat, Int.reduceNeg, *, v95, zln]
  have f : List.set (List.map (TBinding.e false) r20) r16.1.toNat (D.agg [D.str p1.Name, D.int .i64 p1.Value.Kind, D.int .i64 p1.Value.Num, D.str p1.Value.Text, D.int .i64 p1.Value.Ref]) = List.map (TBinding.e false) (setN r20 r16.1.toNat p1) := zmq _ _ _ _ rfl
  try conv => arg 3; simp (maxSteps := 999999) only [sx, ty, ↓reduceIte, reduceCtorEq, Nat.reduceAdd, Nat.reduceSub, Nat.reduceLeDiff, Nat.reduceEqDiff, Nat.reduceLT, Nat.reduceMul, Nat.reduceBNe, List.reduceReplicate, Int.reduceLE, Int.reduceLT, Int.reduceEq, Int.reduceToNat, Int.reduceNeg, *, v95, zln]
  ((with_reducible refine Le.ret ?_); first | exact rfl | exact Pu.mk)
 ·repeat' (try conv => arg 3; simp (maxSteps := 999999) only [sx, ty, ↓reduceIte, reduceCtorEq, Nat.reduceAdd, Nat.reduceSub, Nat.reduceLeDiff, Nat.reduceEqDiff, Nat.reduceLT, Nat.reduceMul, Nat.reduceBNe, List.reduceReplicate, Int.reduceLE, Int.reduceLT, Int.reduceEq, Int.reduceToNat, Int.reduceNeg, *, v95, zln]); first
   | (refine Le.call (zdA _ _ _) fun _ _ _ hy => ?_; obtain ⟨_, rfl⟩ := hy)
   | ((with_reducible refine Le.ret ?_); first | exact rfl | exact Pu.mk)
noncomputable abbrev zen (s1 : ByteArray) (s5 : TValue) (g0 : List TBinding) (g0_1 : List TFunction) (g0_2 : List TRecordType) (k : List Fr) : Option Res := go T (enF [.tmp 6] []) zrD k ⟨[.d (D.ref 0 0), .d (D.str s1), Z, Z, Z, .box [D.int .i64 s5.Kind, D.int .i64 s5.Num, D.str s5.Text, D.int .i64 s5.Ref], Z, Z, Z, Z, Z, Z, Z, Z, Z, Z, Z, Z, Z, Z, Z, Z, Z, Z, Z, Z, Z, Z, Z, Z, Z, Z, Z, Z, Z, Z, Z, Z, Z, Z, Z, Z, Z, Z, Z, Z, Z, Z, Z, Z, Z, Z, Z, Z, Z, Z], [[D.sl true 5 (List.map (TBinding.e false) g0), D.sl true 4 (List.map (TFunction.e true) g0_1), D.sl true 2 (List.map (TRecordType.e true) g0_2)]]⟩
noncomputable abbrev zgW (s1 : ByteArray) (s5 : TValue) (g0 : List TBinding) (g0_1 : List TFunction) (g0_2 : List TRecordType) (k : List Fr) (t : (Int × (List TBinding))) (x : Option Res) : Prop := x = some (D.int .i64 t.1, [], [[D.sl true 5 (List.map (TBinding.e false) t.2), D.sl true 4 (List.map (TFunction.e true) g0_1), D.sl true 2 (List.map (TRecordType.e true) g0_2)]])
theorem zgX (s1 : ByteArray) (s5 : TValue) (g0 : List TBinding) (g0_1 : List TFunction) (g0_2 : List TRecordType) (k : List Fr) : Le (zgW s1 s5 g0 g0_1 g0_2 k) (zbW s1 s5 g0 g0_1 g0_2) (zen s1 s5 g0 g0_1 g0_2 k) := by
 unfold zbW zen zrD
 repeat' (try conv => arg 3; simp (maxSteps := 999999) only [sx, ty, ↓reduceIte, reduceCtorEq, Nat.reduceAdd, Nat.reduceSub, Nat.reduceLeDiff, Nat.reduceEqDiff, Nat.reduceLT, Nat.reduceMul, Nat.reduceBNe, List.reduceReplicate, Int.reduceLE, Int.reduceLT, Int.reduceEq, Int.reduceToNat, Int.reduceNeg, *]); first
  | (refine Le.dcall (zgz _ _) fun _ _ _ hy => ?_; obtain ⟨_, rfl⟩ := hy)
  | ((with_reducible refine Le.ret ?_); first | exact rfl | exact Pu.mk)
theorem ziG (p1 : ByteArray) (p2 : TValue) (g0 : List TBinding) (g0_1 : List TFunction) (g0_2 : List TRecordType) : Le (fun r x => x = some (D.int .i64 r.1, [], [[D.sl true 5 (List.map (TBinding.e false) r.2), D.sl true 4 (List.map (TFunction.e true) g0_1), D.sl true 2 (List.map (TRecordType.e true) g0_2)]])) (zcQ p1 p2 g0 g0_1 g0_2) (zab T 38 [D.ref 0 0, D.str p1, D.agg [D.int .i64 p2.Kind, D.int .i64 p2.Num, D.str p2.Text, D.int .i64 p2.Ref]] [[D.sl true 5 (List.map (TBinding.e false) g0), D.sl true 4 (List.map (TFunction.e true) g0_1), D.sl true 2 (List.map (TRecordType.e true) g0_2)]]) := by
 unfold zcQ
 refine Le.enter (g := v38) rfl rfl rfl rfl ?_
 repeat' (try conv => arg 3; simp (maxSteps := 999999) only [sx, ty, ↓reduceIte, reduceCtorEq, Nat.reduceAdd, Nat.reduceSub, Nat.reduceLeDiff, Nat.reduceEqDiff, Nat.reduceLT, Nat.reduceMul, Nat.reduceBNe, List.reduceReplicate, Int.reduceLE, Int.reduceLT, Int.reduceEq, Int.reduceToNat, Int.reduceNeg, *, v38, zwb]); first
  | (refine Le.call (zfC _ _) fun _ _ _ hy => ?_; obtain ⟨_, rfl⟩ := hy)
  | (refine Le.call (zkR _) fun _ _ _ hy => ?_; obtain ⟨_, rfl⟩ := hy)
  | (refine Le.call (zaY _) fun _ _ _ hy => ?_; obtain ⟨_, rfl⟩ := hy)
  | (refine Le.call (zdz _ _ _) fun _ _ _ hy => ?_; obtain ⟨_, rfl⟩ := hy)
  | exact zgX _ _ _ _ _ _
  | with_reducible refine Le.bool (fun _ => ?_) (fun _ => ?_)
  | ((with_reducible refine Le.ret ?_); first | exact rfl | exact Pu.mk)
  | with_reducible refine Le.itq (fun _ => ?_) (fun _ => ?_)
noncomputable abbrev zhF (s1 : ByteArray) (s3 : TScope) (s5 : TValue) (s6 : TScope) (k : List Fr) : Option Res := go T (enF [.cell 6 (.many 3), .tmp 7] []) zrp k ⟨[Z, .d (D.str s1), Z, .box [D.sl false 5 (List.map (TBinding.e false) s3.Vars), D.sl false 4 (List.map (TFunction.e false) s3.Functions), D.sl false 2 (List.map (TRecordType.e false) s3.Types)], Z, .box [D.int .i64 s5.Kind, D.int .i64 s5.Num, D.str s5.Text, D.int .i64 s5.Ref], .box [D.sl true 5 (List.map (TBinding.e false) s6.Vars), D.sl true 4 (List.map (TFunction.e true) s6.Functions), D.sl true 2 (List.map (TRecordType.e true) s6.Types)], Z, Z, Z, Z, Z, Z, Z, Z, Z, Z, Z, Z, Z, Z, Z, Z, Z, Z, Z, Z, Z, Z, Z, Z, Z, Z, Z], []⟩
noncomputable abbrev zlO (s1 : ByteArray) (s3 : TScope) (s5 : TValue) (s6 : TScope) (k : List Fr) (t : (TScope × Int)) (x : Option Res) : Prop := Pu (D.tup [D.agg [D.sl true 5 (List.map (TBinding.e false) t.1.Vars), D.sl true 4 (List.map (TFunction.e true) t.1.Functions), D.sl true 2 (List.map (TRecordType.e true) t.1.Types)], D.int .i64 t.2]) [] x
theorem zlP (s1 : ByteArray) (s3 : TScope) (s5 : TValue) (s6 : TScope) (k : List Fr) : Le (zlO s1 s3 s5 s6 k) (zfm s1 s3 s5 s6) (zhF s1 s3 s5 s6 k) := by
 unfold zfm zhF zrp
 repeat' (try conv => arg 3; simp (maxSteps := 999999) only [sx, ty, ↓reduceIte, reduceCtorEq, Nat.reduceAdd, Nat.reduceSub, Nat.reduceLeDiff, Nat.reduceEqDiff, Nat.reduceLT, Nat.reduceMul, Nat.reduceBNe, List.reduceReplicate, Int.reduceLE, Int.reduceLT, Int.reduceEq, Int.reduceToNat, Int.reduceNeg, *]); first
  | (refine Le.call (ziF _) fun _ _ _ hy => ?_; obtain ⟨_, rfl⟩ := hy)
  | (refine Le.call (ziG _ _ _ _ _) fun _ _ _ hy => ?_; subst hy)
  | ((with_reducible refine Le.ret ?_); first | exact rfl | exact Pu.mk)
  | with_reducible refine Le.itq (fun _ => ?_) (fun _ => ?_)
theorem zqi (p0 : TScope) (p1 : ByteArray) (p2 : TValue) : Le (fun r x => Pu (D.tup [D.agg [D.sl true 5 (List.map (TBinding.e false) r.1.Vars), D.sl true 4 (List.map (TFunction.e true) r.1.Functions), D.sl true 2 (List.map (TRecordType.e true) r.1.Types)], D.int .i64 r.2]) [] x) (zhv p0 p1 p2) (zab T 11 [D.agg [D.sl false 5 (List.map (TBinding.e false) p0.Vars), D.sl false 4 (List.map (TFunction.e false) p0.Functions), D.sl false 2 (List.map (TRecordType.e false) p0.Types)], D.str p1, D.agg [D.int .i64 p2.Kind, D.int .i64 p2.Num, D.str p2.Text, D.int .i64 p2.Ref]] []) := by
 unfold zhv
 refine Le.enter (g := v11) rfl rfl rfl rfl ?_
 repeat' (try conv => arg 3; simp (maxSteps := 999999) only [sx, ty, ↓reduceIte, reduceCtorEq, Nat.reduceAdd, Nat.reduceSub, Nat.reduceLeDiff, Nat.reduceEqDiff, Nat.reduceLT, Nat.reduceMul, Nat.reduceBNe, List.reduceReplicate, Int.reduceLE, Int.reduceLT, Int.reduceEq, Int.reduceToNat, Int.reduceNeg, *, v11, zvJ]); first
  | (refine Le.call (zks _) fun _ _ _ hy => ?_; obtain ⟨_, rfl⟩ := hy)
  | (refine Le.call (zeh _) fun _ _ _ hy => ?_; obtain ⟨_, rfl⟩ := hy)
  | (refine Le.call (zgH _) fun _ _ _ hy => ?_; obtain ⟨_, rfl⟩ := hy)
  | exact zlP _ _ _ _ _
  | with_reducible refine Le.bool (fun _ => ?_) (fun _ => ?_)
  | ((with_reducible refine Le.ret ?_); first | exact rfl | exact Pu.mk)
end Go.Vx.AsZ
