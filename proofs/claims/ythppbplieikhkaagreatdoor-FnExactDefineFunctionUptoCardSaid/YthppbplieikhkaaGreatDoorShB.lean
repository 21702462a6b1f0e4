/-
  What the plain functions give, the program gives too.
-/
import Derived.Test.YthppbplieikhkaaGreatDoorShA
set_option linter.unusedVariables false
set_option linter.unusedSimpArgs false
namespace Go.Vx.DfZ
set_option linter.unusedVariables false
set_option linter.unusedSimpArgs false
set_option maxRecDepth 10000
set_option maxHeartbeats 2000000
noncomputable abbrev zcp (s1 : TScope) (s2 : TScope) (s13 : List TFunction) (s14 : Int) (s3 : TScope) (s15 : Int) (k : List Fr) : Option Res := go T (enF [.cell 2 (.many 3)] []) zqj (.lp zqk :: .bl 0 :: .sq (.clr [0,5,8,9,10,11,12,13,14,15,16,17,18,19,20,21,22,23,24,25,26,27,28,29,30,31,32,33]) :: k) ⟨[Z, .box [D.sl false 5 (List.map (TBinding.e false) s1.Vars), D.sl false 4 (List.map (TFunction.e false) s1.Functions), D.sl false 2 (List.map (TRecordType.e false) s1.Types)], .box [D.sl true 5 (List.map (TBinding.e false) s2.Vars), D.sl true 4 (List.map (TFunction.e true) s2.Functions), D.sl true 2 (List.map (TRecordType.e true) s2.Types)], .box [D.sl true 5 (List.map (TBinding.e false) s3.Vars), D.sl true 4 (List.map (TFunction.e true) s3.Functions), D.sl true 2 (List.map (TRecordType.e true) s3.Types)], Z, Z, Z, Z, Z, Z, Z, Z, .ptr ⟨.slot 1, [], 1⟩, .d (D.sl false 4 (List.map (TFunction.e false) s13)), .d (D.int .i64 s14), .d (D.int .i64 s15), Z, Z, Z, Z, Z, Z, Z, Z, Z, Z, Z, Z, Z, Z, Z, Z, Z, Z, Z, Z, Z, Z, Z, Z, Z, Z, Z, Z, Z, Z, Z, Z, Z, Z, Z, Z, Z], []⟩
noncomputable abbrev zcq (s1 : TScope) (s2 : TScope) (s13 : List TFunction) (s14 : Int) (k : List Fr) (t : TScope) (x : Option Res) : Prop := x = bk T (enF [.cell 2 (.many 3)] []) k ⟨[Z, .box [D.sl false 5 (List.map (TBinding.e false) s1.Vars), D.sl false 4 (List.map (TFunction.e false) s1.Functions), D.sl false 2 (List.map (TRecordType.e false) s1.Types)], .box [D.sl true 5 (List.map (TBinding.e false) s2.Vars), D.sl true 4 (List.map (TFunction.e true) s2.Functions), D.sl true 2 (List.map (TRecordType.e true) s2.Types)], .box [D.sl true 5 (List.map (TBinding.e false) t.Vars), D.sl true 4 (List.map (TFunction.e true) t.Functions), D.sl true 2 (List.map (TRecordType.e true) t.Types)], Z, Z, Z, Z, Z, Z, Z, Z, Z, Z, Z, Z, Z, Z, Z, Z, Z, Z, Z, Z, Z, Z, Z, Z, Z, Z, Z, Z, Z, Z, Z, Z, Z, Z, Z, Z, Z, Z, Z, Z, Z, Z, Z, Z, Z, Z, Z, Z, Z], []⟩
theorem zhT (s1 : TScope) (s2 : TScope) (s13 : List TFunction) (s14 : Int) : ∀ (s3 : TScope) (s15 : Int) (k : List Fr), Le (zcq s1 s2 s13 s14 k) (zci s1 s2 s13 s14 s3 s15) (zcp s1 s2 s13 s14 s3 s15 k) := by
 intro s3 s15 k
 refine Le.cp (X := zcp s1 s2 s13 s14 s3 s15) (Q := zcq s1 s2 s13 s14) ?_ k
 refine zci.partial_correctness s1 s2 s13 s14 (motive := fun s3 s15 r => ∀ k : List Fr, zcq s1 s2 s13 s14 k r (zcp s1 s2 s13 s14 s3 s15 k)) ?_ s3 s15
 intro rec hrec s3 s15
 refine Le.pc ?_
 intro k
 unfold zcp zqj
 try conv => arg 3; simp (maxSteps := 999999) only [sx, ty, ↓reduceIte, seval, *, ziq, zir]
 refine Le.itq (fun h => ?_) (fun h => ?_)
 ·try conv => arg 3; simp (maxSteps := 999999) only [sx, ty, ↓reduceIte, seval, *, ziq, zir]
  refine Le.idx fun a17 h_1 h_2 h_3 => ?_
  try conv => arg 3; simp (maxSteps := 999999) only [sx, ty, ↓reduceIte, seval, *, ziq, zir]
  refine Le.dcall (zaB a17.Params) fun r21 h_4 _ hy => ?_
  obtain ⟨_, rfl⟩ := hy
  try conv => arg 3; simp (maxSteps := 999999) only [sx, ty, ↓reduceIte, seval, *, ziq, zir]
  refine Le.dcall (zaB a17.Locals) fun r24 h_5 _ hy => ?_
  obtain ⟨_, rfl⟩ := hy
  try conv => arg 3; simp (maxSteps := 999999) only [sx, ty, ↓reduceIte, seval, *, ziq, zir]
  refine Le.app fun c31 h_6 h_7 => ?_
  replace h_6 : List.map (TFunction.e true) s3.Functions ++ [D.agg [D.str a17.Name, D.sl true 1 (List.map D.str r21), D.sl true 1 (List.map D.str r24), D.str a17.Label]] = List.map (TFunction.e true) c31 := by rw [h_6, List.map_append] <;> rfl
  replace h_7 : s3.Functions.length + 1 ≤ most := h_7
  try conv => arg 3; simp (maxSteps := 999999) only [sx, ty, ↓reduceIte, seval, *, ziq, zir]
  exact fun r hr => hrec _ _ r hr k
 ·try conv => arg 3; simp (maxSteps := 999999) only [sx, ty, ↓reduceIte, seval, *, ziq, zir]
  ((with_reducible refine Le.ret ?_); first | exact rfl | exact Pu.mk)
noncomputable abbrev zcr (s1 : TScope) (s2 : TScope) (s35 : List TRecordType) (s36 : Int) (s3 : TScope) (s37 : Int) (k : List Fr) : Option Res := go T (enF [.cell 2 (.many 3)] []) zql (.lp zqm :: .bl 2 :: .sq (.clr [0,1,5,7,8,9,10,11,12,13,14,15,16,17,18,19,20,21,22,23,24,25,26,27,28,29,30,31,32,33,34,35,36,37,38,39,40,41,42,43,44,45,46,47,48,49,50,51]) :: k) ⟨[Z, .box [D.sl false 5 (List.map (TBinding.e false) s1.Vars), D.sl false 4 (List.map (TFunction.e false) s1.Functions), D.sl false 2 (List.map (TRecordType.e false) s1.Types)], .box [D.sl true 5 (List.map (TBinding.e false) s2.Vars), D.sl true 4 (List.map (TFunction.e true) s2.Functions), D.sl true 2 (List.map (TRecordType.e true) s2.Types)], .box [D.sl true 5 (List.map (TBinding.e false) s3.Vars), D.sl true 4 (List.map (TFunction.e true) s3.Functions), D.sl true 2 (List.map (TRecordType.e true) s3.Types)], Z, Z, Z, Z, Z, Z, Z, Z, Z, Z, Z, Z, Z, Z, Z, Z, Z, Z, Z, Z, Z, Z, Z, Z, Z, Z, Z, Z, Z, Z, .ptr ⟨.slot 1, [], 2⟩, .d (D.sl false 2 (List.map (TRecordType.e false) s35)), .d (D.int .i64 s36), .d (D.int .i64 s37), Z, Z, Z, Z, Z, Z, Z, Z, Z, Z, Z, Z, Z, Z, Z], []⟩
noncomputable abbrev zcs (s1 : TScope) (s2 : TScope) (s35 : List TRecordType) (s36 : Int) (k : List Fr) (t : TScope) (x : Option Res) : Prop := x = bk T (enF [.cell 2 (.many 3)] []) k ⟨[Z, Z, .box [D.sl true 5 (List.map (TBinding.e false) s2.Vars), D.sl true 4 (List.map (TFunction.e true) s2.Functions), D.sl true 2 (List.map (TRecordType.e true) s2.Types)], .box [D.sl true 5 (List.map (TBinding.e false) t.Vars), D.sl true 4 (List.map (TFunction.e true) t.Functions), D.sl true 2 (List.map (TRecordType.e true) t.Types)], Z, Z, Z, Z, Z, Z, Z, Z, Z, Z, Z, Z, Z, Z, Z, Z, Z, Z, Z, Z, Z, Z, Z, Z, Z, Z, Z, Z, Z, Z, Z, Z, Z, Z, Z, Z, Z, Z, Z, Z, Z, Z, Z, Z, Z, Z, Z, Z, Z], []⟩
theorem zhU (s1 : TScope) (s2 : TScope) (s35 : List TRecordType) (s36 : Int) : ∀ (s3 : TScope) (s37 : Int) (k : List Fr), Le (zcs s1 s2 s35 s36 k) (zcj s1 s2 s35 s36 s3 s37) (zcr s1 s2 s35 s36 s3 s37 k) := by
 intro s3 s37 k
 refine Le.cp (X := zcr s1 s2 s35 s36 s3 s37) (Q := zcs s1 s2 s35 s36) ?_ k
 refine zcj.partial_correctness s1 s2 s35 s36 (motive := fun s3 s37 r => ∀ k : List Fr, zcs s1 s2 s35 s36 k r (zcr s1 s2 s35 s36 s3 s37 k)) ?_ s3 s37
 intro rec hrec s3 s37
 refine Le.pc ?_
 intro k
 unfold zcr zql
 try conv => arg 3; simp (maxSteps := 999999) only [sx, ty, ↓reduceIte, seval, *, ziq, zir]
 refine Le.itq (fun h => ?_) (fun h => ?_)
 ·try conv => arg 3; simp (maxSteps := 999999) only [sx, ty, ↓reduceIte, seval, *, ziq, zir]
  refine Le.idx fun a39 h_1 h_2 h_3 => ?_
  try conv => arg 3; simp (maxSteps := 999999) only [sx, ty, ↓reduceIte, seval, *, ziq, zir]
  refine Le.call (zaB a39.Fields) fun r43 h_4 _ hy => ?_
  obtain ⟨_, rfl⟩ := hy
  try conv => arg 3; simp (maxSteps := 999999) only [sx, ty, ↓reduceIte, seval, *, ziq, zir]
  refine Le.app fun c49 h_5 h_6 => ?_
  replace h_5 : List.map (TRecordType.e true) s3.Types ++ [D.agg [D.str a39.Name, D.sl true 1 (List.map D.str r43)]] = List.map (TRecordType.e true) c49 := by rw [h_5, List.map_append] <;> rfl
  replace h_6 : s3.Types.length + 1 ≤ most := h_6
  try conv => arg 3; simp (maxSteps := 999999) only [sx, ty, ↓reduceIte, seval, *, ziq, zir]
  exact fun r hr => hrec _ _ r hr k
 ·try conv => arg 3; simp (maxSteps := 999999) only [sx, ty, ↓reduceIte, seval, *, ziq, zir]
  ((with_reducible refine Le.ret ?_); first | exact rfl | exact Pu.mk)
theorem zjE (p0 : TScope) : Le (fun r x => Pu (D.agg [D.sl true 5 (List.map (TBinding.e false) r.Vars), D.sl true 4 (List.map (TFunction.e true) r.Functions), D.sl true 2 (List.map (TRecordType.e true) r.Types)]) [] x) (zdm p0) (zab T 31 [D.agg [D.sl false 5 (List.map (TBinding.e false) p0.Vars), D.sl false 4 (List.map (TFunction.e false) p0.Functions), D.sl false 2 (List.map (TRecordType.e false) p0.Types)]] []) := by
 unfold zdm
 refine Le.enter (g := v31) rfl rfl rfl rfl ?_
 repeat' (try conv => arg 3; simp (maxSteps := 999999) only [sx, ty, ↓reduceIte, seval, *, ziq, zir, v31, zyj]); first
  | (refine Le.call (zeu _) fun _ _ _ hy => ?_; obtain ⟨_, rfl⟩ := hy)
  | (refine Le.via (zhT _ _ _ _ _ _ _) fun _ _ _ hy => ?_; try dsimp only [zcq] at hy; first | subst hy | obtain ⟨_, rfl⟩ := hy)
  | (refine Le.via (zhU _ _ _ _ _ _ _) fun _ _ _ hy => ?_; try dsimp only [zcs] at hy; first | subst hy | obtain ⟨_, rfl⟩ := hy)
  | ((with_reducible refine Le.ret ?_); first | exact rfl | exact Pu.mk)
theorem zeQ (s p : ByteArray) : Le (fun r x => Pu (D.int .i64 r) [] x) (zaU s p) (zab T 157 [D.str s, D.str p] []) := by
 unfold zaU
 intro r hr
 exact ⟨_, by rw [zfB (g := zju) T rfl, znH hr]; rfl⟩
theorem zfn (p0 : ByteArray) (p1 : ByteArray) : Le (fun r x => Pu (D.tup [D.str r.1, D.str r.2.1, D.bool r.2.2]) [] x) (zbn p0 p1) (zab T 144 [D.str p0, D.str p1] []) := by
 unfold zbn
 refine Le.enter (g := v144) rfl rfl rfl rfl ?_
 repeat' (try conv => arg 3; simp (maxSteps := 999999) only [sx, ty, ↓reduceIte, seval, *, v144, zvS]); first
  | (refine Le.call (zeQ _ _) fun _ _ _ hy => ?_; obtain ⟨_, rfl⟩ := hy)
  | with_reducible refine Le.subBH fun _ _ _ _ => ?_
  | with_reducible refine Le.subBL fun _ _ _ _ => ?_
  | ((with_reducible refine Le.ret ?_); first | exact rfl | exact Pu.mk)
  | with_reducible refine Le.itq (fun _ => ?_) (fun _ => ?_)
theorem zmV (p0 : ByteArray) (p1 : ByteArray) : Le (fun r x => Pu (D.tup [D.str r.1, D.str r.2.1, D.bool r.2.2]) [] x) (zdY p0 p1) (zab T 116 [D.str p0, D.str p1] []) := by
 unfold zdY
 refine Le.enter (g := v116) rfl rfl rfl rfl ?_
 repeat' (try conv => arg 3; simp (maxSteps := 999999) only [sx, ty, ↓reduceIte, seval, *, v116, zvE]); first
  | (refine Le.call (zfn _ _) fun _ _ _ hy => ?_; obtain ⟨_, rfl⟩ := hy)
  | ((with_reducible refine Le.ret ?_); first | exact rfl | exact Pu.mk)
theorem zkM (s p : ByteArray) : Le (fun r x => Pu (D.sl true 1 (List.map D.str r)) [] x) (zeK s p) (zab T 145 [D.str s, D.str p] []) := by
 unfold zeK
 intro r hr
 exact ⟨_, by rw [zfB (g := zlW) T rfl, znI hr]; rfl⟩
theorem zmW (p0 : ByteArray) : Le (fun r x => Pu (D.sl true 1 (List.map D.str r)) [] x) (zcI p0) (zab T 117 [D.str p0] []) := by
 unfold zcI
 refine Le.enter (g := v117) rfl rfl rfl rfl ?_
 repeat' (try conv => arg 3; simp (maxSteps := 999999) only [sx, ty, ↓reduceIte, seval, *, v117, zvF]); first
  | (refine Le.call (zkM _ _) fun _ _ _ hy => ?_; obtain ⟨_, rfl⟩ := hy)
  | ((with_reducible refine Le.ret ?_); first | exact rfl | exact Pu.mk)
  | with_reducible refine Le.itq (fun _ => ?_) (fun _ => ?_)
noncomputable abbrev zeA (s0 : ByteArray) (s6 : ByteArray) (s12 : List ByteArray) (s13 : List ByteArray) (s14 : Bool) (k : List Fr) : Option Res := go T (enF [.tmp 2, .tmp 3, .tmp 4, .tmp 5] []) zto k ⟨[.d (D.str s0), Z, Z, Z, Z, Z, .d (D.str s6), Z, Z, Z, Z, Z, .d (D.sl true 1 (List.map D.str s12)), .d (D.sl true 1 (List.map D.str s13)), .d (D.bool s14), Z, Z, Z, Z, Z, Z, Z, Z, Z, Z, Z, Z, Z, Z, Z, Z, Z, Z, Z, Z, Z, Z, Z, Z, Z, Z, Z, Z, Z, Z, Z, Z, Z, Z, Z, Z], []⟩
noncomputable abbrev zht (s0 : ByteArray) (s6 : ByteArray) (s12 : List ByteArray) (s13 : List ByteArray) (s14 : Bool) (k : List Fr) (t : ((ByteArray × (List ByteArray) × (List ByteArray) × Bool))) (x : Option Res) : Prop := Pu (D.tup [D.str t.1, D.sl true 1 (List.map D.str t.2.1), D.sl true 1 (List.map D.str t.2.2.1), D.bool t.2.2.2]) [] x
theorem zhu (s0 : ByteArray) (s6 : ByteArray) (s12 : List ByteArray) (s13 : List ByteArray) (s14 : Bool) (k : List Fr) : Le (zht s0 s6 s12 s13 s14 k) (zan s0 s6 s12 s13 s14) (zeA s0 s6 s12 s13 s14 k) := by
 unfold zan zeA zto
 try conv => arg 3; simp (maxSteps := 999999) only [sx, ty, ↓reduceIte, seval, *]
 ((with_reducible refine Le.ret ?_); first | exact rfl | exact Pu.mk)
theorem zjj (p0 : ByteArray) : Le (fun r x => Pu (D.tup [D.str r.1, D.sl true 1 (List.map D.str r.2.1), D.sl true 1 (List.map D.str r.2.2.1), D.bool r.2.2.2]) [] x) (zcJ p0) (zab T 82 [D.str p0] []) := by
 unfold zcJ
 refine Le.enter (g := v82) rfl rfl rfl rfl ?_
 repeat' (try conv => arg 3; simp (maxSteps := 999999) only [sx, ty, ↓reduceIte, seval, *, v82, zzd]); first
  | (refine Le.call (zmV _ _) fun _ _ _ hy => ?_; obtain ⟨_, rfl⟩ := hy)
  | (refine Le.call (zmW _) fun _ _ _ hy => ?_; obtain ⟨_, rfl⟩ := hy)
  | (refine Le.call (zdZ _) fun _ _ _ hy => ?_; obtain ⟨_, rfl⟩ := hy)
  | (refine Le.call (zea _) fun _ _ _ hy => ?_; obtain ⟨_, rfl⟩ := hy)
  | exact zhu _ _ _ _ _ _
  | with_reducible refine Le.bool (fun _ => ?_) (fun _ => ?_)
  | ((with_reducible refine Le.ret ?_); first | exact rfl | exact Pu.mk)
theorem ziD (p0 : ByteArray) : Le (fun r x => Pu (D.bool r) [] x) (zcw p0) (zab T 153 [D.str p0] []) := by
 unfold zcw
 refine Le.enter (g := v153) rfl rfl rfl rfl ?_
 try conv => arg 3; simp (maxSteps := 999999) only [sx, ty, ↓reduceIte, seval, *, v153, zvT]
 ((with_reducible refine Le.ret ?_); first | exact rfl | exact Pu.mk)
theorem zhv (p0 : ByteArray) (p1 : ByteArray) : Le (fun r x => Pu (D.int .i64 r) [] x) (zbM p0 p1) (zab T 135 [D.str p0, D.str p1] []) := by
 unfold zbM
 refine Le.enter (g := v135) rfl rfl rfl rfl ?_
 repeat' (try conv => arg 3; simp (maxSteps := 999999) only [sx, ty, ↓reduceIte, seval, *, v135, zvO]); first
  | (refine Le.call (ziD _) fun _ _ _ hy => ?_; obtain ⟨_, rfl⟩ := hy)
  | with_reducible refine Le.bool (fun _ => ?_) (fun _ => ?_)
  | ((with_reducible refine Le.ret ?_); first | exact rfl | exact Pu.mk)
  | with_reducible refine Le.itq (fun _ => ?_) (fun _ => ?_)
theorem zfh (p0 : TFunction) (p1 : ByteArray) : Le (fun r x => x = some (D.int .i64 r, [], [[D.fn 71 []]])) (zbw p0 p1) (zab T 134 [D.agg [D.str p0.Name, D.sl false 1 (List.map D.str p0.Params), D.sl false 1 (List.map D.str p0.Locals), D.str p0.Label], D.str p1, D.ref 0 0] [[D.fn 71 []]]) := by
 unfold zbw
 refine Le.enter (g := v134) rfl rfl rfl rfl ?_
 repeat' (try conv => arg 3; simp (maxSteps := 999999) only [sx, ty, ↓reduceIte, seval, *, v134, zvN]); first
  | (refine Le.call (zdR _) fun _ _ _ hy => ?_; obtain ⟨_, rfl⟩ := hy)
  | (refine Le.call (zhv _ _) fun _ _ _ hy => ?_; obtain ⟨_, rfl⟩ := hy)
  | ((with_reducible refine Le.ret ?_); first | exact rfl | exact Pu.mk)
noncomputable abbrev zaf (s0 : List TFunction) (s1 : ByteArray) (s8 : Int) (s9 : Int) (s10 : Int) (k : List Fr) : Option Res := go T (enF [.tmp 6, .tmp 7] []) zmH (.lp zmI :: .bl 0 :: .sq (.clr [6,7,10,11,12,13,14,15,16,17,18,19,20,21,22,23,24,25,26,27,28,29,30,31,32,33,34]) :: k) ⟨[.d (D.sl false 4 (List.map (TFunction.e false) s0)), .d (D.str s1), .d (D.fn 134 [D.ref 0 0]), Z, Z, Z, Z, Z, .d (D.int .i64 s8), .d (D.int .i64 s9), .d (D.int .i64 s10), Z, Z, Z, Z, Z, Z, Z, Z, Z, Z, Z, Z, Z, Z, Z, Z, Z, Z, Z, Z, Z, Z, Z, Z, Z, Z, Z, Z, Z, Z, Z, Z, Z, Z, Z, Z, Z, Z], [[D.fn 71 []]]⟩
noncomputable abbrev zag (s0 : List TFunction) (s1 : ByteArray) (s8 : Int) (k : List Fr) (t : Int) (x : Option Res) : Prop := x = bk T (enF [.tmp 6, .tmp 7] []) k ⟨[.d (D.sl false 4 (List.map (TFunction.e false) s0)), .d (D.str s1), .d (D.fn 134 [D.ref 0 0]), Z, Z, Z, Z, Z, .d (D.int .i64 s8), .d (D.int .i64 t), Z, Z, Z, Z, Z, Z, Z, Z, Z, Z, Z, Z, Z, Z, Z, Z, Z, Z, Z, Z, Z, Z, Z, Z, Z, Z, Z, Z, Z, Z, Z, Z, Z, Z, Z, Z, Z, Z, Z], [[D.fn 71 []]]⟩
theorem zbu (s0 : List TFunction) (s1 : ByteArray) (s8 : Int) : ∀ (s9 : Int) (s10 : Int) (k : List Fr), Le (zag s0 s1 s8 k) (zac s0 s1 s8 s9 s10) (zaf s0 s1 s8 s9 s10 k) := by
 intro s9 s10 k
 refine Le.cp (X := zaf s0 s1 s8 s9 s10) (Q := zag s0 s1 s8) ?_ k
 refine zac.partial_correctness s0 s1 s8 (motive := fun s9 s10 r => ∀ k : List Fr, zag s0 s1 s8 k r (zaf s0 s1 s8 s9 s10 k)) ?_ s9 s10
 intro rec hrec s9 s10
 refine Le.pc ?_
 intro k
 unfold zaf zmH
 repeat' (try conv => arg 3; simp (maxSteps := 999999) only [sx, ty, ↓reduceIte, seval, *, zvL]); first
  | (refine Le.call (zfh _ _) fun _ _ _ hy => ?_; subst hy)
  | with_reducible refine Le.idx fun _ _ _ _ => ?_
  | ((with_reducible refine Le.ret ?_); first | exact rfl | exact Pu.mk)
  | with_reducible refine Le.itq (fun _ => ?_) (fun _ => ?_)
  | exact fun r hr => hrec _ _ r hr k
theorem zbI (p0 : List TFunction) (p1 : ByteArray) : Le (fun r x => x = some (D.tup [D.int .i64 r.1, D.bool r.2], [], [[D.fn 71 []]])) (zak p0 p1) (zab T 133 [D.sl false 4 (List.map (TFunction.e false) p0), D.str p1, D.fn 134 [D.ref 0 0]] [[D.fn 71 []]]) := by
 unfold zak
 refine Le.enter (g := v133) rfl rfl rfl rfl ?_
 repeat' (try conv => arg 3; simp (maxSteps := 999999) only [sx, ty, ↓reduceIte, seval, *, zvL, v133, zvM]); first
  | (refine Le.via (zbu _ _ _ _ _ _) fun _ _ _ hy => ?_; try dsimp only [zag] at hy; first | subst hy | obtain ⟨_, rfl⟩ := hy)
  | (refine Le.call (zfh _ _) fun _ _ _ hy => ?_; subst hy)
  | with_reducible refine Le.idx fun _ _ _ _ => ?_
  | ((with_reducible refine Le.ret ?_); first | exact rfl | exact Pu.mk)
  | with_reducible refine Le.itq (fun _ => ?_) (fun _ => ?_)
theorem zjk (p0 : List TFunction) (p1 : ByteArray) : Le (fun r x => Pu (D.tup [D.int .i64 r.1, D.bool r.2]) [] x) (zcK p0 p1) (zab T 102 [D.sl false 4 (List.map (TFunction.e false) p0), D.str p1, D.fn 71 []] []) := by
 unfold zcK
 refine Le.enter (g := v102) rfl rfl rfl rfl ?_
 repeat' (try conv => arg 3; simp (maxSteps := 999999) only [sx, ty, ↓reduceIte, seval, *, v102, zvo]); first
  | (refine Le.call (zbI _ _) fun _ _ _ hy => ?_; subst hy)
  | ((with_reducible refine Le.ret ?_); first | exact rfl | exact Pu.mk)
theorem zdA (xs : List TFunction) (h : xs.length ≤ 2147483648) : zab T 125 [.sl true 4 (xs.map (TFunction.e true))] [] = some (.sl true 4 (xs.map (TFunction.e true)), [], []) := by
 cases xs with
 | nil =>
  rw [zae T (g := v125) rfl rfl rfl _ _ rfl]
  simp (maxSteps := 9999999) (disch := omega) only [vx, px, ty, ↓reduceIte, seval, fx, vxd, Nat.reduceBNe, most, ifT, ifF, v125, ztv]
 | cons x xs =>
  rw [List.length_cons] at h
  have hX : D.hasX ((TFunction.e true) x) = true := rfl
  rw [zae T (g := v125) rfl rfl rfl _ _ rfl]
  simp (maxSteps := 9999999) (disch := omega) only [vx, px, ty, ↓reduceIte, seval, fx, vxd, Nat.reduceBNe, most, ifT, ifF, v125, ztv, hX, Bool.true_or]
theorem zdB (p0 : List TFunction) : Le (fun r x => Pu (D.sl true 4 (List.map (TFunction.e true) r)) [] x) (zaC p0) (zab T 125 [D.sl true 4 (List.map (TFunction.e true) p0)] []) := by
 unfold zaC
 refine Le.chk fun h => Le.ret ?_
 exact ⟨_, zdA p0 h⟩
theorem zdT (a : List TFunction) (i : Int) (y : TFunction) : Le (fun r x => Pu (D.sl true 4 (List.map (TFunction.e true) r)) [] x) (zaE a i y) (zab T 126 [D.sl true 4 (List.map (TFunction.e true) a), D.int .i64 i, D.sl true 4 [D.agg [D.str y.Name, D.sl true 1 (List.map D.str y.Params), D.sl true 1 (List.map D.str y.Locals), D.str y.Label]]] []) := by
 unfold zaE
 refine Le.chk fun h => Le.ret ?_
 exact ⟨_, by rw [zfB (g := ziM 4) T rfl, zmv (TFunction.e true) 4 a i y (v := D.agg [D.str y.Name, D.sl true 1 (List.map D.str y.Params), D.sl true 1 (List.map D.str y.Locals), D.str y.Label]) rfl h]; rfl⟩
theorem zgZ (p0 : List TFunction) (p1 : TFunction) : Le (fun r x => Pu (D.sl true 4 (List.map (TFunction.e true) r)) [] x) (zbD p0 p1) (zab T 94 [D.sl true 4 (List.map (TFunction.e true) p0), D.agg [D.str p1.Name, D.sl true 1 (List.map D.str p1.Params), D.sl true 1 (List.map D.str p1.Locals), D.str p1.Label], D.fn 71 []] []) := by
 unfold zbD
 refine Le.enter (g := v94) rfl rfl rfl rfl ?_
 try conv => arg 3; simp (maxSteps := 999999) only [sx, ty, ↓reduceIte, seval, *, v94, zmx]
 refine Le.call (zdR p1) fun r14 h _ hy => ?_
 obtain ⟨_, rfl⟩ := hy
 try conv => arg 3; simp (maxSteps := 999999) only [sx, ty, ↓reduceIte, seval, *, v94, zmx]
 refine Le.call (zjk p0 r14) fun r16 h_1 _ hy => ?_
 obtain ⟨_, rfl⟩ := hy
 try conv => arg 3; simp (maxSteps := 999999) only [sx, ty, ↓reduceIte, seval, *, v94, zmx]
 refine Le.call (zdB p0) fun r20 h_2 _ hy => ?_
 obtain ⟨_, rfl⟩ := hy
 try conv => arg 3; simp (maxSteps := 999999) only [sx, ty, ↓reduceIte, seval, *, v94, zmx]
 refine Le.bool (fun h_3 => ?_) (fun h_3 => ?_)
 ·try conv => arg 3; simp (maxSteps := 999999) only [sx, ty, ↓reduceIte, seval, *, v94, zmx]
  refine Le.idx fun a25 h_4 h_5 h_6 => ?_
  try conv => arg 3; simp (maxSteps := 999999) only [sx, ty, ↓reduceIte, seval, *, v94, zmx]
  have f : List.set (List.map (TFunction.e true) r20) r16.1.toNat (D.agg [D.str p1.Name, D.sl true 1 (List.map D.str p1.Params), D.sl true 1 (List.map D.str p1.Locals), D.str p1.Label]) = List.map (TFunction.e true) (setN r20 r16.1.toNat p1) := zny _ _ _ _ rfl
  try conv => arg 3; simp (maxSteps := 999999) only [sx, ty, ↓reduceIte, seval, *, v94, zmx]
  ((with_reducible refine Le.ret ?_); first | exact rfl | exact Pu.mk)
 ·repeat' (try conv => arg 3; simp (maxSteps := 999999) only [sx, ty, ↓reduceIte, seval, *, v94, zmx]); first
   | (refine Le.call (zdT _ _ _) fun _ _ _ hy => ?_; obtain ⟨_, rfl⟩ := hy)
   | ((with_reducible refine Le.ret ?_); first | exact rfl | exact Pu.mk)
noncomputable abbrev zfi (s1 : ByteArray) (s2 : ByteArray) (s11 : TFunction) (g0 : List TBinding) (g0_1 : List TFunction) (g0_2 : List TRecordType) (k : List Fr) : Option Res := go T (enF [.tmp 6] []) zth k ⟨[.d (D.ref 0 0), .d (D.str s1), .d (D.str s2), Z, Z, Z, Z, Z, Z, Z, Z, .box [D.str s11.Name, D.sl true 1 (List.map D.str s11.Params), D.sl true 1 (List.map D.str s11.Locals), D.str s11.Label], Z, Z, Z, Z, Z, Z, Z, Z, Z, Z, Z, Z, Z, Z, Z, Z, Z, Z, Z, Z, Z, Z, Z, Z, Z, Z, Z, Z, Z, Z, Z, Z, Z, Z, Z, Z, Z], [[D.sl true 5 (List.map (TBinding.e false) g0), D.sl true 4 (List.map (TFunction.e true) g0_1), D.sl true 2 (List.map (TRecordType.e true) g0_2)]]⟩
noncomputable abbrev zfj (s1 : ByteArray) (s2 : ByteArray) (s11 : TFunction) (g0 : List TBinding) (g0_1 : List TFunction) (g0_2 : List TRecordType) (k : List Fr) (t : (((Int × Nat) ⊕ (Int × (List TFunction))))) (x : Option Res) : Prop := match t with | .inl r => x = some (D.int .i64 r.1, [], [[D.sl true 5 (List.map (TBinding.e false) g0), D.gho r.2, D.sl true 2 (List.map (TRecordType.e true) g0_2)]]) | .inr r => x = some (D.int .i64 r.1, [], [[D.sl true 5 (List.map (TBinding.e false) g0), D.sl true 4 (List.map (TFunction.e true) r.2), D.sl true 2 (List.map (TRecordType.e true) g0_2)]])
theorem zhV (s1 : ByteArray) (s2 : ByteArray) (s11 : TFunction) (g0 : List TBinding) (g0_1 : List TFunction) (g0_2 : List TRecordType) (k : List Fr) : Le (zfj s1 s2 s11 g0 g0_1 g0_2 k) (zcS s1 s2 s11 g0 g0_1 g0_2) (zfi s1 s2 s11 g0 g0_1 g0_2 k) := by
 unfold zcS zfi zth
 repeat' (try conv => arg 3; simp (maxSteps := 999999) only [sx, ty, ↓reduceIte, seval, *]); first
  | (refine Le.dcall (zgZ _ _) fun _ _ _ hy => ?_; obtain ⟨_, rfl⟩ := hy)
  | ((with_reducible refine Le.ret ?_); first | exact rfl | exact Pu.mk)
  | with_reducible refine Le.itq (fun _ => ?_) (fun _ => ?_)
noncomputable abbrev zfk (s1 : ByteArray) (s2 : ByteArray) (s10 : Bool) (s11 : TFunction) (g0 : List TBinding) (g0_1 : List TFunction) (g0_2 : List TRecordType) (k : List Fr) : Option Res := go T (enF [.tmp 6] []) zti k ⟨[.d (D.ref 0 0), .d (D.str s1), .d (D.str s2), Z, Z, Z, Z, Z, Z, Z, .d (D.bool s10), .box [D.str s11.Name, D.sl true 1 (List.map D.str s11.Params), D.sl true 1 (List.map D.str s11.Locals), D.str s11.Label], Z, Z, Z, Z, Z, Z, Z, Z, Z, Z, Z, Z, Z, Z, Z, Z, Z, Z, Z, Z, Z, Z, Z, Z, Z, Z, Z, Z, Z, Z, Z, Z, Z, Z, Z, Z, Z], [[D.sl true 5 (List.map (TBinding.e false) g0), D.sl true 4 (List.map (TFunction.e true) g0_1), D.sl true 2 (List.map (TRecordType.e true) g0_2)]]⟩
noncomputable abbrev zhW (s1 : ByteArray) (s2 : ByteArray) (s10 : Bool) (s11 : TFunction) (g0 : List TBinding) (g0_1 : List TFunction) (g0_2 : List TRecordType) (k : List Fr) (t : (((Int × Nat) ⊕ (Int × (List TFunction))))) (x : Option Res) : Prop := match t with | .inl r => x = some (D.int .i64 r.1, [], [[D.sl true 5 (List.map (TBinding.e false) g0), D.gho r.2, D.sl true 2 (List.map (TRecordType.e true) g0_2)]]) | .inr r => x = some (D.int .i64 r.1, [], [[D.sl true 5 (List.map (TBinding.e false) g0), D.sl true 4 (List.map (TFunction.e true) r.2), D.sl true 2 (List.map (TRecordType.e true) g0_2)]])
theorem zhX (s1 : ByteArray) (s2 : ByteArray) (s10 : Bool) (s11 : TFunction) (g0 : List TBinding) (g0_1 : List TFunction) (g0_2 : List TRecordType) (k : List Fr) : Le (zhW s1 s2 s10 s11 g0 g0_1 g0_2 k) (zbb s1 s2 s10 s11 g0 g0_1 g0_2) (zfk s1 s2 s10 s11 g0 g0_1 g0_2 k) := by
 unfold zbb zfk zti
 repeat' (try conv => arg 3; simp (maxSteps := 999999) only [sx, ty, ↓reduceIte, seval, *]); first
  | (refine Le.call (zez _) fun _ _ _ hy => ?_; obtain ⟨_, rfl⟩ := hy)
  | (refine Le.via (zhV _ _ _ _ _ _ _) fun _ _ _ hy => ?_; try dsimp only [zfj] at hy; first | subst hy | obtain ⟨_, rfl⟩ := hy)
  | exact Le.ret hy
  | with_reducible refine Le.bool (fun _ => ?_) (fun _ => ?_)
  | ((with_reducible refine Le.ret ?_); first | exact rfl | exact Pu.mk)
theorem zjF (p1 : ByteArray) (p2 : ByteArray) (g0 : List TBinding) (g0_1 : List TFunction) (g0_2 : List TRecordType) : Le (fun r x => match r with | .inl r => x = some (D.int .i64 r.1, [], [[D.sl true 5 (List.map (TBinding.e false) g0), D.gho r.2, D.sl true 2 (List.map (TRecordType.e true) g0_2)]]) | .inr r => x = some (D.int .i64 r.1, [], [[D.sl true 5 (List.map (TBinding.e false) g0), D.sl true 4 (List.map (TFunction.e true) r.2), D.sl true 2 (List.map (TRecordType.e true) g0_2)]])) (zdn p1 p2 g0 g0_1 g0_2) (zab T 45 [D.ref 0 0, D.str p1, D.str p2] [[D.sl true 5 (List.map (TBinding.e false) g0), D.sl true 4 (List.map (TFunction.e true) g0_1), D.sl true 2 (List.map (TRecordType.e true) g0_2)]]) := by
 unfold zdn
 refine Le.enter (g := v45) rfl rfl rfl rfl ?_
 repeat' (try conv => arg 3; simp (maxSteps := 999999) only [sx, ty, ↓reduceIte, seval, *, v45, zyw]); first
  | (refine Le.call (zjj _) fun _ _ _ hy => ?_; obtain ⟨_, rfl⟩ := hy)
  | exact zhX _ _ _ _ _ _ _ _
  | ((with_reducible refine Le.ret ?_); first | exact rfl | exact Pu.mk)
  | with_reducible refine Le.itq (fun _ => ?_) (fun _ => ?_)
noncomputable abbrev zev (s1 : ByteArray) (s2 : ByteArray) (s3 : TScope) (s6 : TScope) (k : List Fr) : Option Res := go T (enF [.cell 6 (.many 3), .tmp 7] []) zsX k ⟨[Z, .d (D.str s1), .d (D.str s2), .box [D.sl false 5 (List.map (TBinding.e false) s3.Vars), D.sl false 4 (List.map (TFunction.e false) s3.Functions), D.sl false 2 (List.map (TRecordType.e false) s3.Types)], Z, Z, .box [D.sl true 5 (List.map (TBinding.e false) s6.Vars), D.sl true 4 (List.map (TFunction.e true) s6.Functions), D.sl true 2 (List.map (TRecordType.e true) s6.Types)], Z, Z, Z, Z, Z, Z, Z, Z, Z, Z, Z, Z, Z, Z, Z, Z, Z, Z, Z, Z, Z, Z, Z, Z, Z, Z], []⟩
noncomputable abbrev zha (s1 : ByteArray) (s2 : ByteArray) (s3 : TScope) (s6 : TScope) (k : List Fr) (t : ((((List TBinding) × Nat × (List TRecordType) × Int) ⊕ (TScope × Int)))) (x : Option Res) : Prop := match t with | .inl r => Pu (D.tup [D.agg [D.sl true 5 (List.map (TBinding.e false) r.1), D.gho r.2.1, D.sl true 2 (List.map (TRecordType.e true) r.2.2.1)], D.int .i64 r.2.2.2]) [] x | .inr r => Pu (D.tup [D.agg [D.sl true 5 (List.map (TBinding.e false) r.1.Vars), D.sl true 4 (List.map (TFunction.e true) r.1.Functions), D.sl true 2 (List.map (TRecordType.e true) r.1.Types)], D.int .i64 r.2]) [] x
theorem zhb (s1 : ByteArray) (s2 : ByteArray) (s3 : TScope) (s6 : TScope) (k : List Fr) : Le (zha s1 s2 s3 s6 k) (zbc s1 s2 s3 s6) (zev s1 s2 s3 s6 k) := by
 unfold zbc zev zsX
 repeat' (try conv => arg 3; simp (maxSteps := 999999) only [sx, ty, ↓reduceIte, seval, *]); first
  | (refine Le.call (zjE _) fun _ _ _ hy => ?_; obtain ⟨_, rfl⟩ := hy)
  | (refine Le.call (zjF _ _ _ _ _) fun t _ _ hy => ?_; rcases t with t | t <;> (dsimp only at hy; first | subst hy | obtain ⟨_, rfl⟩ := hy))
  | ((with_reducible refine Le.ret ?_); first | exact rfl | exact Pu.mk)
  | with_reducible refine Le.itq (fun _ => ?_) (fun _ => ?_)
theorem ziE (p0 : TScope) (p1 : ByteArray) (p2 : ByteArray) : Le (fun r x => match r with | .inl r => Pu (D.tup [D.agg [D.sl true 5 (List.map (TBinding.e false) r.1), D.gho r.2.1, D.sl true 2 (List.map (TRecordType.e true) r.2.2.1)], D.int .i64 r.2.2.2]) [] x | .inr r => Pu (D.tup [D.agg [D.sl true 5 (List.map (TBinding.e false) r.1.Vars), D.sl true 4 (List.map (TFunction.e true) r.1.Functions), D.sl true 2 (List.map (TRecordType.e true) r.1.Types)], D.int .i64 r.2]) [] x) (zcx p0 p1 p2) (zab T 14 [D.agg [D.sl false 5 (List.map (TBinding.e false) p0.Vars), D.sl false 4 (List.map (TFunction.e false) p0.Functions), D.sl false 2 (List.map (TRecordType.e false) p0.Types)], D.str p1, D.str p2] []) := by
 unfold zcx
 refine Le.enter (g := v14) rfl rfl rfl rfl ?_
 repeat' (try conv => arg 3; simp (maxSteps := 999999) only [sx, ty, ↓reduceIte, seval, *, v14, zxX]); first
  | (refine Le.call (zlA _) fun _ _ _ hy => ?_; obtain ⟨_, rfl⟩ := hy)
  | exact zhb _ _ _ _ _
  | (refine Le.call (zdZ _) fun _ _ _ hy => ?_; obtain ⟨_, rfl⟩ := hy)
  | with_reducible refine Le.bool (fun _ => ?_) (fun _ => ?_)
  | ((with_reducible refine Le.ret ?_); first | exact rfl | exact Pu.mk)
  | with_reducible refine Le.itq (fun _ => ?_) (fun _ => ?_)
end Go.Vx.DfZ
