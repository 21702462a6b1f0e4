/-
  What the plain functions give, the program gives too.
-/
import Derived.Test.YthppbplieikhkaaGreatDoorCode
import Derived.Test.YthppbplieikhkaaGreatDoorDef
set_option linter.unusedVariables false
set_option linter.unusedSimpArgs false
namespace Go.Vx.DtZ
set_option linter.unusedVariables false
set_option linter.unusedSimpArgs false
set_option maxRecDepth 10000
set_option maxHeartbeats 2000000
theorem zhZ (p0 : Int) : Le (fun r x => Pu (D.bool r) [] x) (zdR p0) (zac T 122 [D.int .u8 p0] []) := by
 unfold zdR
 refine Le.enter (g := v122) rfl rfl rfl rfl ?_
 repeat' (try conv => arg 3; simp (maxSteps := 999999) only [sx, ty, ↓reduceIte, seval, *, v122, zvh]); first
  | ((with_reducible refine Le.ret ?_); first | exact rfl | exact Pu.mk)
  | with_reducible refine Le.itq (fun _ => ?_) (fun _ => ?_)
theorem znT (p0 : Int) : Le (fun r x => Pu (D.bool r) [] x) (zfp p0) (zac T 123 [D.int .u8 p0] []) := by
 unfold zfp
 refine Le.enter (g := v123) rfl rfl rfl rfl ?_
 repeat' (try conv => arg 3; simp (maxSteps := 999999) only [sx, ty, ↓reduceIte, seval, *, v123, zvi]); first
  | ((with_reducible refine Le.ret ?_); first | exact rfl | exact Pu.mk)
  | with_reducible refine Le.itq (fun _ => ?_) (fun _ => ?_)
noncomputable abbrev zcL (s0 : ByteArray) (s1 : Int) (k : List Fr) : Option Res := go T (enF [.tmp 4] []) zqw (.lp zqx :: .bl 0 :: .sq (.clr [4,5,6,7,8,9,10,11,12,13,14,15,16,17,18,19,20,21,22,23,24,25,26,27,28,29,30,31,32,33,34,35,36,37,38,39,40]) :: k) ⟨[.d (D.str s0), .d (D.int .i64 s1), Z, Z, Z, Z, Z, Z, Z, Z, Z, Z, Z, Z, Z, Z, Z, Z, Z, Z, Z, Z, Z, Z, Z, Z, Z, Z, Z, Z, Z, Z, Z, Z, Z, Z, Z, Z, Z, Z, Z, Z], []⟩
noncomputable abbrev zcM (s0 : ByteArray) (k : List Fr) (t : Int) (x : Option Res) : Prop := x = bk T (enF [.tmp 4] []) k ⟨[.d (D.str s0), .d (D.int .i64 t), Z, Z, Z, Z, Z, Z, Z, Z, Z, Z, Z, Z, Z, Z, Z, Z, Z, Z, Z, Z, Z, Z, Z, Z, Z, Z, Z, Z, Z, Z, Z, Z, Z, Z, Z, Z, Z, Z, Z, Z], []⟩
theorem ziv (s0 : ByteArray) : ∀ (s1 : Int) (k : List Fr), Le (zcM s0 k) (zbb s0 s1) (zcL s0 s1 k) := by
 intro s1 k
 refine Le.cp (X := zcL s0 s1) (Q := zcM s0) ?_ k
 refine zbb.partial_correctness s0 (motive := fun s1 r => ∀ k : List Fr, zcM s0 k r (zcL s0 s1 k)) ?_ s1
 intro rec hrec s1
 refine Le.pc ?_
 intro k
 unfold zcL zqw
 repeat' (try conv => arg 3; simp (maxSteps := 999999) only [sx, ty, ↓reduceIte, seval, *, zws]); first
  | (refine Le.call (zhZ _) fun _ _ _ hy => ?_; obtain ⟨_, rfl⟩ := hy)
  | (refine Le.call (znT _) fun _ _ _ hy => ?_; obtain ⟨_, rfl⟩ := hy)
  | with_reducible refine Le.idxB fun _ _ _ _ => ?_
  | with_reducible refine Le.bool (fun _ => ?_) (fun _ => ?_)
  | ((with_reducible refine Le.ret ?_); first | exact rfl | exact Pu.mk)
  | with_reducible refine Le.itq (fun _ => ?_) (fun _ => ?_)
  | exact fun r hr => hrec _ r hr k
noncomputable abbrev zfs (s0 : ByteArray) (s1 : Int) (k : List Fr) : Option Res := go T (enF [.tmp 4] []) zsR k ⟨[.d (D.str s0), .d (D.int .i64 s1), Z, Z, Z, Z, Z, Z, Z, Z, Z, Z, Z, Z, Z, Z, Z, Z, Z, Z, Z, Z, Z, Z, Z, Z, Z, Z, Z, Z, Z, Z, Z, Z, Z, Z, Z, Z, Z, Z, Z, Z], []⟩
noncomputable abbrev ziw (s0 : ByteArray) (s1 : Int) (k : List Fr) (t : Int) (x : Option Res) : Prop := Pu (D.int .i64 t) [] x
theorem zix (s0 : ByteArray) (s1 : Int) (k : List Fr) : Le (ziw s0 s1 k) (zdA s0 s1) (zfs s0 s1 k) := by
 unfold zdA zfs zsR
 repeat' (try conv => arg 3; simp (maxSteps := 999999) only [sx, ty, ↓reduceIte, seval, *, zws]); first
  | (refine Le.via (ziv _ _ _) fun _ _ _ hy => ?_; try dsimp only [zcM] at hy; first | subst hy | obtain ⟨_, rfl⟩ := hy)
  | ((with_reducible refine Le.ret ?_); first | exact rfl | exact Pu.mk)
theorem zkY (p0 : ByteArray) (p1 : Int) : Le (fun r x => Pu (D.int .i64 r) [] x) (zeX p0 p1) (zac T 90 [D.str p0, D.int .i64 p1] []) := by
 unfold zeX
 refine Le.enter (g := v90) rfl rfl rfl rfl ?_
 repeat' (try conv => arg 3; simp (maxSteps := 999999) only [sx, ty, ↓reduceIte, seval, *, zws, v90, zyK]); first
  | (refine Le.call (zhZ _) fun _ _ _ hy => ?_; obtain ⟨_, rfl⟩ := hy)
  | exact zix _ _ _
  | ((with_reducible refine Le.ret ?_); first | exact rfl | exact Pu.mk)
  | with_reducible refine Le.idxB fun _ _ _ _ => ?_
  | with_reducible refine Le.bool (fun _ => ?_) (fun _ => ?_)
  | with_reducible refine Le.itq (fun _ => ?_) (fun _ => ?_)
theorem zft (p0 : ByteArray) : Le (fun r x => Pu (D.bool r) [] x) (zdW p0) (zac T 42 [D.str p0] []) := by
 unfold zdW
 refine Le.enter (g := v42) rfl rfl rfl rfl ?_
 repeat' (try conv => arg 3; simp (maxSteps := 999999) only [sx, ty, ↓reduceIte, seval, *, v42, zxV]); first
  | (refine Le.call (zkY _ _) fun _ _ _ hy => ?_; obtain ⟨_, rfl⟩ := hy)
  | ((with_reducible refine Le.ret ?_); first | exact rfl | exact Pu.mk)
  | with_reducible refine Le.itq (fun _ => ?_) (fun _ => ?_)
theorem zgB (p0 : TValue) (p1 : Bool) (p2 : Bool) (p3 : Bool) : Le (fun r x => Pu (D.bool r) [] x) (zcG p0 p1 p2 p3) (zac T 103 [D.agg [D.int .i64 p0.Kind, D.int .i64 p0.Num, D.str p0.Text, D.int .i64 p0.Ref], D.bool p1, D.bool p2, D.bool p3] []) := by
 unfold zcG
 refine Le.enter (g := v103) rfl rfl rfl rfl ?_
 repeat' (try conv => arg 3; simp (maxSteps := 999999) only [sx, ty, ↓reduceIte, seval, *, v103, zuN]); first
  | with_reducible refine Le.bool (fun _ => ?_) (fun _ => ?_)
  | ((with_reducible refine Le.ret ?_); first | exact rfl | exact Pu.mk)
  | with_reducible refine Le.itq (fun _ => ?_) (fun _ => ?_)
theorem zkk (p0 : Int) (p1 : Int) (p2 : Int) : Le (fun r x => Pu (D.bool r) [] x) (zgz p0 p1 p2) (zac T 61 [D.int .i64 p0, D.int .i64 p1, D.int .i64 p2] []) := by
 unfold zgz
 refine Le.enter (g := v61) rfl rfl rfl rfl ?_
 repeat' (try conv => arg 3; simp (maxSteps := 999999) only [sx, ty, ↓reduceIte, seval, *, v61, zye]); first
  | ((with_reducible refine Le.ret ?_); first | exact rfl | exact Pu.mk)
  | with_reducible refine Le.itq (fun _ => ?_) (fun _ => ?_)
noncomputable abbrev zfu (s1 : TValue) (s45 : Bool) (k : List Fr) : Option Res := go T (enF [.tmp 2] []) zsK k ⟨[Z, .box [D.int .i64 s1.Kind, D.int .i64 s1.Num, D.str s1.Text, D.int .i64 s1.Ref], Z, Z, Z, Z, Z, Z, Z, Z, Z, Z, Z, Z, Z, Z, Z, Z, Z, Z, Z, Z, Z, Z, Z, Z, Z, Z, Z, Z, Z, Z, Z, Z, Z, Z, Z, Z, Z, Z, Z, Z, Z, Z, Z, .d (D.bool s45), Z, Z, Z, Z, Z, Z, Z, Z, Z], []⟩
noncomputable abbrev zfv (s1 : TValue) (s45 : Bool) (k : List Fr) (t : (Bool ⊕ Bool)) (x : Option Res) : Prop := match t with | .inl t => x = bk T (enF [.tmp 2] []) k ⟨[Z, .box [D.int .i64 s1.Kind, D.int .i64 s1.Num, D.str s1.Text, D.int .i64 s1.Ref], Z, Z, Z, Z, Z, Z, Z, Z, Z, Z, Z, Z, Z, Z, Z, Z, Z, Z, Z, Z, Z, Z, Z, Z, Z, Z, Z, Z, Z, Z, Z, Z, Z, Z, Z, Z, Z, Z, Z, Z, Z, Z, Z, .d (D.bool t), Z, Z, Z, Z, Z, Z, Z, Z, Z], []⟩ | .inr t => Pu (D.bool t) [] x
theorem ziy (s1 : TValue) (s45 : Bool) (k : List Fr) : Le (zfv s1 s45 k) (zcx s1 s45) (zfu s1 s45 k) := by
 unfold zcx zfu zsK
 repeat' (try conv => arg 3; simp (maxSteps := 999999) only [sx, ty, ↓reduceIte, seval, *]); first
  | (refine Le.call (zgB _ _ _ _) fun _ _ _ hy => ?_; obtain ⟨_, rfl⟩ := hy)
  | (refine Le.call (zft _) fun _ _ _ hy => ?_; obtain ⟨_, rfl⟩ := hy)
  | with_reducible refine Le.bool (fun _ => ?_) (fun _ => ?_)
  | ((with_reducible refine Le.ret ?_); first | exact rfl | exact Pu.mk)
noncomputable abbrev zfw (s1 : TValue) (s4 : Int) (s34 : Bool) (k : List Fr) : Option Res := go T (enF [.tmp 2] []) zsL k ⟨[Z, .box [D.int .i64 s1.Kind, D.int .i64 s1.Num, D.str s1.Text, D.int .i64 s1.Ref], Z, Z, .d (D.int .i64 s4), Z, Z, Z, Z, Z, Z, Z, Z, Z, Z, Z, Z, Z, Z, Z, Z, Z, Z, Z, Z, Z, Z, Z, Z, Z, Z, Z, Z, Z, .d (D.bool s34), Z, Z, Z, Z, Z, Z, Z, Z, Z, Z, Z, Z, Z, Z, Z, Z, Z, Z, Z, Z], []⟩
noncomputable abbrev zfx (s1 : TValue) (s4 : Int) (s34 : Bool) (k : List Fr) (t : (Unit ⊕ Bool)) (x : Option Res) : Prop := match t with | .inl t => x = bk T (enF [.tmp 2] []) k ⟨[Z, .box [D.int .i64 s1.Kind, D.int .i64 s1.Num, D.str s1.Text, D.int .i64 s1.Ref], Z, Z, Z, Z, Z, Z, Z, Z, Z, Z, Z, Z, Z, Z, Z, Z, Z, Z, Z, Z, Z, Z, Z, Z, Z, Z, Z, Z, Z, Z, Z, Z, Z, Z, Z, Z, Z, Z, Z, Z, Z, Z, Z, Z, Z, Z, Z, Z, Z, Z, Z, Z, Z], []⟩ | .inr t => Pu (D.bool t) [] x
theorem ziz (s1 : TValue) (s4 : Int) (s34 : Bool) (k : List Fr) : Le (zfx s1 s4 s34 k) (zbT s1 s4 s34) (zfw s1 s4 s34 k) := by
 unfold zbT zfw zsL
 repeat' (try conv => arg 3; simp (maxSteps := 999999) only [sx, ty, ↓reduceIte, seval, *]); first
  | (refine Le.call (zgB _ _ _ _) fun _ _ _ hy => ?_; obtain ⟨_, rfl⟩ := hy)
  | (refine Le.call (zkk _ _ _) fun _ _ _ hy => ?_; obtain ⟨_, rfl⟩ := hy)
  | (refine Le.via (ziy _ _ _) fun t _ _ hy => ?_; rcases t with t | t <;> (try dsimp only [zfv] at hy; first | subst hy | obtain ⟨_, rfl⟩ := hy))
  | with_reducible refine Le.bool (fun _ => ?_) (fun _ => ?_)
  | ((with_reducible refine Le.ret ?_); first | exact rfl | exact Pu.mk)
  | with_reducible refine Le.itq (fun _ => ?_) (fun _ => ?_)
theorem zkZ (p0 : TValue) : Le (fun r x => Pu (D.bool r) [] x) (zdZ p0) (zac T 54 [D.agg [D.int .i64 p0.Kind, D.int .i64 p0.Num, D.str p0.Text, D.int .i64 p0.Ref]] []) := by
 unfold zdZ
 refine Le.enter (g := v54) rfl rfl rfl rfl ?_
 repeat' (try conv => arg 3; simp (maxSteps := 999999) only [sx, ty, ↓reduceIte, seval, *, v54, zxY]); first
  | (refine Le.call (zgB _ _ _ _) fun _ _ _ hy => ?_; obtain ⟨_, rfl⟩ := hy)
  | (refine Le.call (zkk _ _ _) fun _ _ _ hy => ?_; obtain ⟨_, rfl⟩ := hy)
  | (refine Le.via (ziz _ _ _ _) fun t _ _ hy => ?_; rcases t with t | t <;> (try dsimp only [zfx] at hy; first | subst hy | obtain ⟨_, rfl⟩ := hy))
  | with_reducible refine Le.bool (fun _ => ?_) (fun _ => ?_)
  | ((with_reducible refine Le.ret ?_); first | exact rfl | exact Pu.mk)
  | with_reducible refine Le.itq (fun _ => ?_) (fun _ => ?_)
theorem zrj (p0 : TValue) : Le (fun r x => Pu (D.bool r) [] x) (zjq p0) (zac T 55 [D.agg [D.int .i64 p0.Kind, D.int .i64 p0.Num, D.str p0.Text, D.int .i64 p0.Ref]] []) := by
 unfold zjq
 refine Le.enter (g := v55) rfl rfl rfl rfl ?_
 try conv => arg 3; simp (maxSteps := 999999) only [sx, ty, ↓reduceIte, seval, *, v55, zxZ]
 ((with_reducible refine Le.ret ?_); first | exact rfl | exact Pu.mk)
noncomputable abbrev zeY (s0 : List ByteArray) (s1 : ByteArray) (s5 : Int) (k : List Fr) : Option Res := go T (enF [.tmp 4] []) zmh (.lp zmi :: .bl 0 :: .sq (.clr [4,5,6,7,8,9,10,11,12,13,14,15,16,17,18]) :: k) ⟨[.d (D.sl false 1 (List.map D.str s0)), .d (D.str s1), Z, Z, Z, .d (D.int .i64 s5), Z, Z, Z, Z, Z, Z, Z, Z, Z, Z, Z, Z, Z], []⟩
noncomputable abbrev zeZ (s0 : List ByteArray) (s1 : ByteArray) (k : List Fr) (t : (Unit ⊕ Int)) (x : Option Res) : Prop := match t with | .inl t => x = bk T (enF [.tmp 4] []) k ⟨[.d (D.sl false 1 (List.map D.str s0)), .d (D.str s1), Z, Z, Z, Z, Z, Z, Z, Z, Z, Z, Z, Z, Z, Z, Z, Z, Z], []⟩ | .inr t => Pu (D.int .i64 t) [] x
theorem znU (s0 : List ByteArray) (s1 : ByteArray) : ∀ (s5 : Int) (k : List Fr), Le (zeZ s0 s1 k) (zfq s0 s1 s5) (zeY s0 s1 s5 k) := by
 intro s5 k
 refine Le.cp (X := zeY s0 s1 s5) (Q := zeZ s0 s1) ?_ k
 refine zfq.partial_correctness s0 s1 (motive := fun s5 r => ∀ k : List Fr, zeZ s0 s1 k r (zeY s0 s1 s5 k)) ?_ s5
 intro rec hrec s5
 refine Le.pc ?_
 intro k
 unfold zeY zmh
 repeat' (try conv => arg 3; simp (maxSteps := 999999) only [sx, ty, ↓reduceIte, seval, *, zuR]); first
  | with_reducible refine Le.idx fun _ _ _ _ => ?_
  | ((with_reducible refine Le.ret ?_); first | exact rfl | exact Pu.mk)
  | with_reducible refine Le.itq (fun _ => ?_) (fun _ => ?_)
  | exact fun r hr => hrec _ r hr k
theorem ztc (p0 : List ByteArray) (p1 : ByteArray) : Le (fun r x => Pu (D.int .i64 r) [] x) (zkj p0 p1) (zac T 107 [D.sl false 1 (List.map D.str p0), D.str p1] []) := by
 unfold zkj
 refine Le.enter (g := v107) rfl rfl rfl rfl ?_
 repeat' (try conv => arg 3; simp (maxSteps := 999999) only [sx, ty, ↓reduceIte, seval, *, zuR, v107, zuS]); first
  | (refine Le.via (znU _ _ _ _) fun t _ _ hy => ?_; rcases t with t | t <;> (try dsimp only [zeZ] at hy; first | subst hy | obtain ⟨_, rfl⟩ := hy))
  | ((with_reducible refine Le.ret ?_); first | exact rfl | exact Pu.mk)
noncomputable abbrev zdH (s0 : List ByteArray) (s3 : Int) (k : List Fr) : Option Res := go T (enF [.tmp 2] []) zqf (.lp zqg :: .bl 0 :: .sq (.clr [2,3,4,5,6,7,8,9,10,11,12,13,14,15,16,17,18,19,20,21,22,23,24,25]) :: k) ⟨[.d (D.sl false 1 (List.map D.str s0)), Z, Z, .d (D.int .i64 s3), Z, Z, Z, Z, Z, Z, Z, Z, Z, Z, Z, Z, Z, Z, Z, Z, Z, Z, Z, Z, Z, Z], []⟩
noncomputable abbrev zdI (s0 : List ByteArray) (k : List Fr) (t : (Unit ⊕ Bool)) (x : Option Res) : Prop := match t with | .inl t => x = bk T (enF [.tmp 2] []) k ⟨[.d (D.sl false 1 (List.map D.str s0)), Z, Z, Z, Z, Z, Z, Z, Z, Z, Z, Z, Z, Z, Z, Z, Z, Z, Z, Z, Z, Z, Z, Z, Z, Z], []⟩ | .inr t => Pu (D.bool t) [] x
theorem zkl (s0 : List ByteArray) : ∀ (s3 : Int) (k : List Fr), Le (zdI s0 k) (zew s0 s3) (zdH s0 s3 k) := by
 intro s3 k
 refine Le.cp (X := zdH s0 s3) (Q := zdI s0) ?_ k
 refine zew.partial_correctness s0 (motive := fun s3 r => ∀ k : List Fr, zdI s0 k r (zdH s0 s3 k)) ?_ s3
 intro rec hrec s3
 refine Le.pc ?_
 intro k
 unfold zdH zqf
 repeat' (try conv => arg 3; simp (maxSteps := 999999) only [sx, ty, ↓reduceIte, seval, *, zyf]); first
  | (refine Le.call (zft _) fun _ _ _ hy => ?_; obtain ⟨_, rfl⟩ := hy)
  | (refine Le.call (ztc _ _) fun _ _ _ hy => ?_; obtain ⟨_, rfl⟩ := hy)
  | with_reducible refine Le.idx fun _ _ _ _ => ?_
  | with_reducible refine Le.bool (fun _ => ?_) (fun _ => ?_)
  | ((with_reducible refine Le.ret ?_); first | exact rfl | exact Pu.mk)
  | with_reducible refine Le.itq (fun _ => ?_) (fun _ => ?_)
  | exact fun r hr => hrec _ r hr k
theorem ziZ (p0 : List ByteArray) : Le (fun r x => Pu (D.bool r) [] x) (zeJ p0) (zac T 62 [D.sl false 1 (List.map D.str p0)] []) := by
 unfold zeJ
 refine Le.enter (g := v62) rfl rfl rfl rfl ?_
 repeat' (try conv => arg 3; simp (maxSteps := 999999) only [sx, ty, ↓reduceIte, seval, *, zyf, v62, zyg]); first
  | (refine Le.via (zkl _ _ _) fun t _ _ hy => ?_; rcases t with t | t <;> (try dsimp only [zdI] at hy; first | subst hy | obtain ⟨_, rfl⟩ := hy))
  | ((with_reducible refine Le.ret ?_); first | exact rfl | exact Pu.mk)
noncomputable abbrev zfa (s1 : TFunction) (k : List Fr) : Option Res := go T (enF [.tmp 2] []) zsJ k ⟨[Z, .box [D.str s1.Name, D.sl false 1 (List.map D.str s1.Params), D.sl false 1 (List.map D.str s1.Locals), D.str s1.Label], Z, Z, Z, Z, Z, Z, Z, Z, Z, Z, Z, Z, Z, Z, Z, Z, Z, Z, Z, Z, Z, Z, Z, Z, Z, Z, Z, Z, Z, Z, Z], []⟩
noncomputable abbrev zia (s1 : TFunction) (k : List Fr) (t : Bool) (x : Option Res) : Prop := Pu (D.bool t) [] x
theorem zib (s1 : TFunction) (k : List Fr) : Le (zia s1 k) (zdl s1) (zfa s1 k) := by
 unfold zdl zfa zsJ
 try conv => arg 3; simp (maxSteps := 999999) only [sx, ty, ↓reduceIte, seval, *]
 refine Le.chk fun h => ?_
 try conv => arg 3; simp (maxSteps := 999999) only [sx, ty, ↓reduceIte, seval, *]
 refine Le.app fun c31 h_1 h_2 => ?_
 replace h_1 : List.map D.str s1.Params ++ List.map D.str s1.Locals = List.map D.str c31 := by rw [h_1, List.map_append] <;> rfl
 replace h_2 : s1.Params.length + s1.Locals.length ≤ most := h_2
 repeat' (try conv => arg 3; simp (maxSteps := 999999) only [sx, ty, ↓reduceIte, seval, *]); first
  | (refine Le.dcall (ziZ _) fun _ _ _ hy => ?_; obtain ⟨_, rfl⟩ := hy)
  | ((with_reducible refine Le.ret ?_); first | exact rfl | exact Pu.mk)
theorem zkm (p0 : TFunction) : Le (fun r x => Pu (D.bool r) [] x) (zdB p0) (zac T 43 [D.agg [D.str p0.Name, D.sl false 1 (List.map D.str p0.Params), D.sl false 1 (List.map D.str p0.Locals), D.str p0.Label]] []) := by
 unfold zdB
 refine Le.enter (g := v43) rfl rfl rfl rfl ?_
 repeat' (try conv => arg 3; simp (maxSteps := 999999) only [sx, ty, ↓reduceIte, seval, *, v43, zxW]); first
  | (refine Le.call (zft _) fun _ _ _ hy => ?_; obtain ⟨_, rfl⟩ := hy)
  | exact zib _ _
  | with_reducible refine Le.bool (fun _ => ?_) (fun _ => ?_)
  | ((with_reducible refine Le.ret ?_); first | exact rfl | exact Pu.mk)
  | with_reducible refine Le.itq (fun _ => ?_) (fun _ => ?_)
theorem zkn (p0 : TRecordType) : Le (fun r x => Pu (D.bool r) [] x) (zfr p0) (zac T 25 [D.agg [D.str p0.Name, D.sl false 1 (List.map D.str p0.Fields)]] []) := by
 unfold zfr
 refine Le.enter (g := v25) rfl rfl rfl rfl ?_
 repeat' (try conv => arg 3; simp (maxSteps := 999999) only [sx, ty, ↓reduceIte, seval, *, v25, zxE]); first
  | (refine Le.call (zft _) fun _ _ _ hy => ?_; obtain ⟨_, rfl⟩ := hy)
  | (refine Le.call (zkk _ _ _) fun _ _ _ hy => ?_; obtain ⟨_, rfl⟩ := hy)
  | (refine Le.call (ziZ _) fun _ _ _ hy => ?_; obtain ⟨_, rfl⟩ := hy)
  | with_reducible refine Le.bool (fun _ => ?_) (fun _ => ?_)
  | ((with_reducible refine Le.ret ?_); first | exact rfl | exact Pu.mk)
noncomputable abbrev zcN (s1 : TScope) (s3 : Int) (k : List Fr) : Option Res := go T (enF [.tmp 2] []) zpy (.lp zpz :: .bl 0 :: .sq (.clr [0,2,3,4,7,8,9,10,11,12,13,14,15,16,17,18,19,20,21,22,23,24,25,26,27,28,29,30,31,32,33,34,35,36,37,38,39,40,41,42,43,44,45,46,47,48,49,50,51,52,53,54,55,56,57,58,59,60,61,62,63,64,65]) :: k) ⟨[Z, .box [D.sl false 5 (List.map (TBinding.e false) s1.Vars), D.sl false 4 (List.map (TFunction.e false) s1.Functions), D.sl false 2 (List.map (TRecordType.e false) s1.Types)], Z, .d (D.int .i64 s3), Z, Z, Z, Z, Z, Z, Z, Z, Z, Z, Z, Z, Z, Z, Z, Z, Z, Z, Z, Z, Z, Z, Z, Z, Z, Z, Z, Z, Z, Z, Z, Z, Z, Z, Z, Z, Z, Z, Z, Z, Z, Z, Z, Z, Z, Z, Z, Z, Z, Z, Z, Z, Z, Z, Z, Z, Z, Z, Z, Z, Z, Z, Z, Z, Z, Z, Z, Z, Z, Z, Z, Z, Z, Z, Z, Z, Z, Z, Z, Z, Z, Z, Z, Z, Z, Z, Z, Z, Z, Z, Z, Z, Z, Z, Z, Z, Z, Z, Z, Z, Z, Z, Z, Z, Z, Z, Z, Z, Z, Z, Z, Z, Z, Z, Z, Z, Z, Z, Z, Z, Z, Z, Z, Z, Z, Z, Z, Z, Z, Z], []⟩
noncomputable abbrev zcO (s1 : TScope) (k : List Fr) (t : (Unit ⊕ Bool)) (x : Option Res) : Prop := match t with | .inl t => x = bk T (enF [.tmp 2] []) k ⟨[Z, .box [D.sl false 5 (List.map (TBinding.e false) s1.Vars), D.sl false 4 (List.map (TFunction.e false) s1.Functions), D.sl false 2 (List.map (TRecordType.e false) s1.Types)], Z, Z, Z, Z, Z, Z, Z, Z, Z, Z, Z, Z, Z, Z, Z, Z, Z, Z, Z, Z, Z, Z, Z, Z, Z, Z, Z, Z, Z, Z, Z, Z, Z, Z, Z, Z, Z, Z, Z, Z, Z, Z, Z, Z, Z, Z, Z, Z, Z, Z, Z, Z, Z, Z, Z, Z, Z, Z, Z, Z, Z, Z, Z, Z, Z, Z, Z, Z, Z, Z, Z, Z, Z, Z, Z, Z, Z, Z, Z, Z, Z, Z, Z, Z, Z, Z, Z, Z, Z, Z, Z, Z, Z, Z, Z, Z, Z, Z, Z, Z, Z, Z, Z, Z, Z, Z, Z, Z, Z, Z, Z, Z, Z, Z, Z, Z, Z, Z, Z, Z, Z, Z, Z, Z, Z, Z, Z, Z, Z, Z, Z, Z], []⟩ | .inr t => Pu (D.bool t) [] x
theorem ziA (s1 : TScope) : ∀ (s3 : Int) (k : List Fr), Le (zcO s1 k) (zbU s1 s3) (zcN s1 s3 k) := by
 intro s3 k
 refine Le.cp (X := zcN s1 s3) (Q := zcO s1) ?_ k
 refine zbU.partial_correctness s1 (motive := fun s3 r => ∀ k : List Fr, zcO s1 k r (zcN s1 s3 k)) ?_ s3
 intro rec hrec s3
 refine Le.pc ?_
 intro k
 unfold zcN zpy
 repeat' (try conv => arg 3; simp (maxSteps := 999999) only [sx, ty, ↓reduceIte, seval, *, zsA, zsB, zsC]); first
  | (refine Le.dcall (zft _) fun _ _ _ hy => ?_; obtain ⟨_, rfl⟩ := hy)
  | (refine Le.dcall (zkZ _) fun _ _ _ hy => ?_; obtain ⟨_, rfl⟩ := hy)
  | (refine Le.dcall (zrj _) fun _ _ _ hy => ?_; obtain ⟨_, rfl⟩ := hy)
  | with_reducible refine Le.idx fun _ _ _ _ => ?_
  | with_reducible refine Le.bool (fun _ => ?_) (fun _ => ?_)
  | ((with_reducible refine Le.ret ?_); first | exact rfl | exact Pu.mk)
  | with_reducible refine Le.itq (fun _ => ?_) (fun _ => ?_)
  | exact fun r hr => hrec _ r hr k
noncomputable abbrev zcP (s1 : TScope) (s5 : Int) (k : List Fr) : Option Res := go T (enF [.tmp 2] []) zpA (.lp zpB :: .bl 2 :: .sq (.clr [0,2,3,4,5,7,8,9,10,11,12,13,14,15,16,17,18,19,20,21,22,23,24,25,26,27,28,29,30,31,32,33,34,35,36,37,38,39,40,41,42,43,44,45,46,47,48,49,50,51,52,53,54,55,56,57,58,59,60,61,62,63,64,65,66,67,68,69,70,71,72,73,74,75,76,77,78,79,80,81,82,83,84,85,86,87,88,89,90,91,92,93,94,95,96,97,98,99]) :: k) ⟨[Z, .box [D.sl false 5 (List.map (TBinding.e false) s1.Vars), D.sl false 4 (List.map (TFunction.e false) s1.Functions), D.sl false 2 (List.map (TRecordType.e false) s1.Types)], Z, Z, Z, .d (D.int .i64 s5), Z, Z, Z, Z, Z, Z, Z, Z, Z, Z, Z, Z, Z, Z, Z, Z, Z, Z, Z, Z, Z, Z, Z, Z, Z, Z, Z, Z, Z, Z, Z, Z, Z, Z, Z, Z, Z, Z, Z, Z, Z, Z, Z, Z, Z, Z, Z, Z, Z, Z, Z, Z, Z, Z, Z, Z, Z, Z, Z, Z, Z, Z, Z, Z, Z, Z, Z, Z, Z, Z, Z, Z, Z, Z, Z, Z, Z, Z, Z, Z, Z, Z, Z, Z, Z, Z, Z, Z, Z, Z, Z, Z, Z, Z, Z, Z, Z, Z, Z, Z, Z, Z, Z, Z, Z, Z, Z, Z, Z, Z, Z, Z, Z, Z, Z, Z, Z, Z, Z, Z, Z, Z, Z, Z, Z, Z, Z, Z], []⟩
noncomputable abbrev zcQ (s1 : TScope) (k : List Fr) (t : (Unit ⊕ Bool)) (x : Option Res) : Prop := match t with | .inl t => x = bk T (enF [.tmp 2] []) k ⟨[Z, .box [D.sl false 5 (List.map (TBinding.e false) s1.Vars), D.sl false 4 (List.map (TFunction.e false) s1.Functions), D.sl false 2 (List.map (TRecordType.e false) s1.Types)], Z, Z, Z, Z, Z, Z, Z, Z, Z, Z, Z, Z, Z, Z, Z, Z, Z, Z, Z, Z, Z, Z, Z, Z, Z, Z, Z, Z, Z, Z, Z, Z, Z, Z, Z, Z, Z, Z, Z, Z, Z, Z, Z, Z, Z, Z, Z, Z, Z, Z, Z, Z, Z, Z, Z, Z, Z, Z, Z, Z, Z, Z, Z, Z, Z, Z, Z, Z, Z, Z, Z, Z, Z, Z, Z, Z, Z, Z, Z, Z, Z, Z, Z, Z, Z, Z, Z, Z, Z, Z, Z, Z, Z, Z, Z, Z, Z, Z, Z, Z, Z, Z, Z, Z, Z, Z, Z, Z, Z, Z, Z, Z, Z, Z, Z, Z, Z, Z, Z, Z, Z, Z, Z, Z, Z, Z, Z, Z, Z, Z, Z, Z], []⟩ | .inr t => Pu (D.bool t) [] x
theorem ziB (s1 : TScope) : ∀ (s5 : Int) (k : List Fr), Le (zcQ s1 k) (zbV s1 s5) (zcP s1 s5 k) := by
 intro s5 k
 refine Le.cp (X := zcP s1 s5) (Q := zcQ s1) ?_ k
 refine zbV.partial_correctness s1 (motive := fun s5 r => ∀ k : List Fr, zcQ s1 k r (zcP s1 s5 k)) ?_ s5
 intro rec hrec s5
 refine Le.pc ?_
 intro k
 unfold zcP zpA
 repeat' (try conv => arg 3; simp (maxSteps := 999999) only [sx, ty, ↓reduceIte, seval, *, zsA, zsB, zsC]); first
  | (refine Le.dcall (zkm _) fun _ _ _ hy => ?_; obtain ⟨_, rfl⟩ := hy)
  | with_reducible refine Le.idx fun _ _ _ _ => ?_
  | with_reducible refine Le.bool (fun _ => ?_) (fun _ => ?_)
  | ((with_reducible refine Le.ret ?_); first | exact rfl | exact Pu.mk)
  | with_reducible refine Le.itq (fun _ => ?_) (fun _ => ?_)
  | exact fun r hr => hrec _ r hr k
noncomputable abbrev zcR (s1 : TScope) (s6 : Int) (k : List Fr) : Option Res := go T (enF [.tmp 2] []) zpC (.lp zpD :: .bl 4 :: .sq (.clr [0,1,2,3,4,5,6,7,8,9,10,11,12,13,14,15,16,17,18,19,20,21,22,23,24,25,26,27,28,29,30,31,32,33,34,35,36,37,38,39,40,41,42,43,44,45,46,47,48,49,50,51,52,53,54,55,56,57,58,59,60,61,62,63,64,65,66,67,68,69,70,71,72,73,74,75,76,77,78,79,80,81,82,83,84,85,86,87,88,89,90,91,92,93,94,95,96,97,98,99,100,101,102,103,104,105,106,107,108,109,110,111,112,113,114,115,116,117,118,119,120,121,122,123,124,125,126,127,128,129,130,131,132,133]) :: k) ⟨[Z, .box [D.sl false 5 (List.map (TBinding.e false) s1.Vars), D.sl false 4 (List.map (TFunction.e false) s1.Functions), D.sl false 2 (List.map (TRecordType.e false) s1.Types)], Z, Z, Z, Z, .d (D.int .i64 s6), Z, Z, Z, Z, Z, Z, Z, Z, Z, Z, Z, Z, Z, Z, Z, Z, Z, Z, Z, Z, Z, Z, Z, Z, Z, Z, Z, Z, Z, Z, Z, Z, Z, Z, Z, Z, Z, Z, Z, Z, Z, Z, Z, Z, Z, Z, Z, Z, Z, Z, Z, Z, Z, Z, Z, Z, Z, Z, Z, Z, Z, Z, Z, Z, Z, Z, Z, Z, Z, Z, Z, Z, Z, Z, Z, Z, Z, Z, Z, Z, Z, Z, Z, Z, Z, Z, Z, Z, Z, Z, Z, Z, Z, Z, Z, Z, Z, Z, Z, Z, Z, Z, Z, Z, Z, Z, Z, Z, Z, Z, Z, Z, Z, Z, Z, Z, Z, Z, Z, Z, Z, Z, Z, Z, Z, Z, Z], []⟩
noncomputable abbrev zcS (s1 : TScope) (k : List Fr) (t : (Unit ⊕ Bool)) (x : Option Res) : Prop := match t with | .inl t => x = bk T (enF [.tmp 2] []) k ⟨[Z, Z, Z, Z, Z, Z, Z, Z, Z, Z, Z, Z, Z, Z, Z, Z, Z, Z, Z, Z, Z, Z, Z, Z, Z, Z, Z, Z, Z, Z, Z, Z, Z, Z, Z, Z, Z, Z, Z, Z, Z, Z, Z, Z, Z, Z, Z, Z, Z, Z, Z, Z, Z, Z, Z, Z, Z, Z, Z, Z, Z, Z, Z, Z, Z, Z, Z, Z, Z, Z, Z, Z, Z, Z, Z, Z, Z, Z, Z, Z, Z, Z, Z, Z, Z, Z, Z, Z, Z, Z, Z, Z, Z, Z, Z, Z, Z, Z, Z, Z, Z, Z, Z, Z, Z, Z, Z, Z, Z, Z, Z, Z, Z, Z, Z, Z, Z, Z, Z, Z, Z, Z, Z, Z, Z, Z, Z, Z, Z, Z, Z, Z, Z, Z], []⟩ | .inr t => Pu (D.bool t) [] x
theorem ziC (s1 : TScope) : ∀ (s6 : Int) (k : List Fr), Le (zcS s1 k) (zbW s1 s6) (zcR s1 s6 k) := by
 intro s6 k
 refine Le.cp (X := zcR s1 s6) (Q := zcS s1) ?_ k
 refine zbW.partial_correctness s1 (motive := fun s6 r => ∀ k : List Fr, zcS s1 k r (zcR s1 s6 k)) ?_ s6
 intro rec hrec s6
 refine Le.pc ?_
 intro k
 unfold zcR zpC
 repeat' (try conv => arg 3; simp (maxSteps := 999999) only [sx, ty, ↓reduceIte, seval, *, zsA, zsB, zsC]); first
  | (refine Le.dcall (zkn _) fun _ _ _ hy => ?_; obtain ⟨_, rfl⟩ := hy)
  | with_reducible refine Le.idx fun _ _ _ _ => ?_
  | with_reducible refine Le.bool (fun _ => ?_) (fun _ => ?_)
  | ((with_reducible refine Le.ret ?_); first | exact rfl | exact Pu.mk)
  | with_reducible refine Le.itq (fun _ => ?_) (fun _ => ?_)
  | exact fun r hr => hrec _ r hr k
noncomputable abbrev zfy (s1 : TScope) (k : List Fr) : Option Res := go T (enF [.tmp 2] []) zsD k ⟨[Z, .box [D.sl false 5 (List.map (TBinding.e false) s1.Vars), D.sl false 4 (List.map (TFunction.e false) s1.Functions), D.sl false 2 (List.map (TRecordType.e false) s1.Types)], Z, Z, Z, Z, Z, Z, Z, Z, Z, Z, Z, Z, Z, Z, Z, Z, Z, Z, Z, Z, Z, Z, Z, Z, Z, Z, Z, Z, Z, Z, Z, Z, Z, Z, Z, Z, Z, Z, Z, Z, Z, Z, Z, Z, Z, Z, Z, Z, Z, Z, Z, Z, Z, Z, Z, Z, Z, Z, Z, Z, Z, Z, Z, Z, Z, Z, Z, Z, Z, Z, Z, Z, Z, Z, Z, Z, Z, Z, Z, Z, Z, Z, Z, Z, Z, Z, Z, Z, Z, Z, Z, Z, Z, Z, Z, Z, Z, Z, Z, Z, Z, Z, Z, Z, Z, Z, Z, Z, Z, Z, Z, Z, Z, Z, Z, Z, Z, Z, Z, Z, Z, Z, Z, Z, Z, Z, Z, Z, Z, Z, Z, Z], []⟩
noncomputable abbrev ziD (s1 : TScope) (k : List Fr) (t : Bool) (x : Option Res) : Prop := Pu (D.bool t) [] x
theorem ziE (s1 : TScope) (k : List Fr) : Le (ziD s1 k) (zdC s1) (zfy s1 k) := by
 unfold zdC zfy zsD
 repeat' (try conv => arg 3; simp (maxSteps := 999999) only [sx, ty, ↓reduceIte, seval, *, zsA, zsB, zsC]); first
  | (refine Le.via (ziA _ _ _) fun t _ _ hy => ?_; rcases t with t | t <;> (try dsimp only [zcO] at hy; first | subst hy | obtain ⟨_, rfl⟩ := hy))
  | (refine Le.via (ziB _ _ _) fun t _ _ hy => ?_; rcases t with t | t <;> (try dsimp only [zcQ] at hy; first | subst hy | obtain ⟨_, rfl⟩ := hy))
  | (refine Le.via (ziC _ _ _) fun t _ _ hy => ?_; rcases t with t | t <;> (try dsimp only [zcS] at hy; first | subst hy | obtain ⟨_, rfl⟩ := hy))
  | ((with_reducible refine Le.ret ?_); first | exact rfl | exact Pu.mk)
theorem zla (p0 : TScope) : Le (fun r x => Pu (D.bool r) [] x) (zea p0) (zac T 18 [D.agg [D.sl false 5 (List.map (TBinding.e false) p0.Vars), D.sl false 4 (List.map (TFunction.e false) p0.Functions), D.sl false 2 (List.map (TRecordType.e false) p0.Types)]] []) := by
 unfold zea
 refine Le.enter (g := v18) rfl rfl rfl rfl ?_
 repeat' (try conv => arg 3; simp (maxSteps := 999999) only [sx, ty, ↓reduceIte, seval, *, zsA, zsB, zsC, v18, zxz]); first
  | exact ziE _ _
  | ((with_reducible refine Le.ret ?_); first | exact rfl | exact Pu.mk)
  | with_reducible refine Le.itq (fun _ => ?_) (fun _ => ?_)
noncomputable abbrev zgC (s0 : ByteArray) (s3 : List ByteArray) (s4 : Int) (s5 : Int) (k : List Fr) : Option Res := go T (enF [.tmp 2] []) zsM k ⟨[.d (D.str s0), Z, Z, .d (D.sl true 1 (List.map D.str s3)), .d (D.int .i64 s4), .d (D.int .i64 s5), Z, Z, Z, Z, Z, Z, Z, Z, Z, Z, Z, Z, Z, Z, Z, Z, Z, Z, Z, Z, Z, Z, Z, Z, Z, Z, Z, Z, Z, Z], []⟩
noncomputable abbrev zgD (s0 : ByteArray) (s3 : List ByteArray) (s4 : Int) (s5 : Int) (k : List Fr) (t : ((List ByteArray) × Int × ByteArray × (List ByteArray) × Int)) (x : Option Res) : Prop := x = bk T (enF [.tmp 2] []) k ⟨[.d (D.str s0), Z, Z, .d (D.sl true 1 (List.map D.str t.1)), .d (D.int .i64 t.2.1), .d (D.int .i64 s5), Z, Z, Z, Z, Z, Z, Z, Z, Z, Z, Z, Z, Z, Z, Z, Z, Z, Z, Z, Z, Z, .d (D.str s0), .d (D.int .i64 s4), .d (D.int .i64 s5), .d (D.str t.2.2.1), .d (D.sl true 1 (List.map D.str t.2.2.2.1)), Z, .d (D.int .i64 s5), .d (D.int .i64 t.2.2.2.2), Z], []⟩
theorem zko (s0 : ByteArray) (s3 : List ByteArray) (s4 : Int) (s5 : Int) (k : List Fr) : Le (zgD s0 s3 s4 s5 k) (zcH s0 s3 s4 s5) (zgC s0 s3 s4 s5 k) := by
 unfold zcH zgC zsM
 try conv => arg 3; simp (maxSteps := 999999) only [sx, ty, ↓reduceIte, seval, *, zsN]
 refine Le.subB fun c30 h h_1 h_2 h_3 h_4 => ?_
 try conv => arg 3; simp (maxSteps := 999999) only [sx, ty, ↓reduceIte, seval, *, zsN]
 refine Le.app fun c32 h_5 h_6 => ?_
 replace h_5 : List.map D.str s3 ++ [D.str c30] = List.map D.str c32 := by rw [h_5, List.map_append] <;> rfl
 replace h_6 : s3.length + 1 ≤ most := h_6
 try conv => arg 3; simp (maxSteps := 999999) only [sx, ty, ↓reduceIte, seval, *, zsN]
 ((with_reducible refine Le.ret ?_); first | exact rfl | exact Pu.mk)
noncomputable abbrev zdJ (s0 : ByteArray) (s3 : List ByteArray) (s4 : Int) (s5 : Int) (k : List Fr) : Option Res := go T (enF [.tmp 2] []) zqd (.lp zqe :: .bl 0 :: .sq (.clr [2,4,5,6,7,8,9,10,11,12,13,14,15,16,17,18,19,20,21,22,23,24,25,26,27,28,29,30,31,32,33,34]) :: k) ⟨[.d (D.str s0), Z, Z, .d (D.sl true 1 (List.map D.str s3)), .d (D.int .i64 s4), .d (D.int .i64 s5), Z, Z, Z, Z, Z, Z, Z, Z, Z, Z, Z, Z, Z, Z, Z, Z, Z, Z, Z, Z, Z, Z, Z, Z, Z, Z, Z, Z, Z, Z], []⟩
noncomputable abbrev zdK (s0 : ByteArray) (k : List Fr) (t : ((List ByteArray))) (x : Option Res) : Prop := x = bk T (enF [.tmp 2] []) k ⟨[.d (D.str s0), Z, Z, .d (D.sl true 1 (List.map D.str t)), Z, Z, Z, Z, Z, Z, Z, Z, Z, Z, Z, Z, Z, Z, Z, Z, Z, Z, Z, Z, Z, Z, Z, Z, Z, Z, Z, Z, Z, Z, Z, Z], []⟩
theorem zkp (s0 : ByteArray) : ∀ (s3 : List ByteArray) (s4 : Int) (s5 : Int) (k : List Fr), Le (zdK s0 k) (zcf s0 s3 s4 s5) (zdJ s0 s3 s4 s5 k) := by
 intro s3 s4 s5 k
 refine Le.cp (X := zdJ s0 s3 s4 s5) (Q := zdK s0) ?_ k
 refine zcf.partial_correctness s0 (motive := fun s3 s4 s5 r => ∀ k : List Fr, zdK s0 k r (zdJ s0 s3 s4 s5 k)) ?_ s3 s4 s5
 intro rec hrec s3 s4 s5
 refine Le.pc ?_
 intro k
 unfold zdJ zqd
 repeat' (try conv => arg 3; simp (maxSteps := 999999) only [sx, ty, ↓reduceIte, seval, *, zsN]); first
  | (refine Le.via (zko _ _ _ _ _) fun _ _ _ hy => ?_; try dsimp only [zgD] at hy; first | subst hy | obtain ⟨_, rfl⟩ := hy)
  | with_reducible refine Le.idxB fun _ _ _ _ => ?_
  | ((with_reducible refine Le.ret ?_); first | exact rfl | exact Pu.mk)
  | with_reducible refine Le.itq (fun _ => ?_) (fun _ => ?_)
  | exact fun r hr => hrec _ _ _ r hr k
theorem znV (p0 : ByteArray) : Le (fun r x => Pu (D.sl true 1 (List.map D.str r)) [] x) (zeK p0) (zac T 60 [D.str p0] []) := by
 unfold zeK
 refine Le.enter (g := v60) rfl rfl rfl rfl ?_
 repeat' (try conv => arg 3; simp (maxSteps := 999999) only [sx, ty, ↓reduceIte, seval, *, zsN, v60, zyd]); first
  | (refine Le.via (zkp _ _ _ _ _) fun _ _ _ hy => ?_; try dsimp only [zdK] at hy; first | subst hy | obtain ⟨_, rfl⟩ := hy)
  | ((with_reducible refine Le.ret ?_); first | exact rfl | exact Pu.mk)
  | with_reducible refine Le.itq (fun _ => ?_) (fun _ => ?_)
noncomputable abbrev zeQ (s0 : ByteArray) (s6 : Int) (s7 : Int) (s8 : Int) (k : List Fr) : Option Res := go T (enF [.tmp 2, .tmp 3, .tmp 4, .tmp 5] []) zsE k ⟨[.d (D.str s0), Z, Z, Z, Z, Z, .d (D.int .i64 s6), .d (D.int .i64 s7), .d (D.int .i64 s8), Z, Z, Z, Z, Z, Z, Z, Z, Z, Z, Z, Z, Z, Z, Z, Z, Z, Z, Z, Z, Z, Z, Z, Z, Z, Z, Z, Z, Z, Z, Z, Z, Z, Z, Z, Z, Z, Z, Z, Z, Z, Z, Z, Z, Z], []⟩
noncomputable abbrev zeR (s0 : ByteArray) (s6 : Int) (s7 : Int) (s8 : Int) (k : List Fr) (t : Int) (x : Option Res) : Prop := x = bk T (enF [.tmp 2, .tmp 3, .tmp 4, .tmp 5] []) k ⟨[.d (D.str s0), Z, Z, Z, Z, Z, .d (D.int .i64 s6), .d (D.int .i64 t), .d (D.int .i64 s8), Z, Z, Z, Z, Z, Z, Z, Z, Z, Z, Z, Z, Z, Z, Z, Z, Z, Z, Z, Z, Z, Z, Z, Z, Z, Z, Z, Z, Z, Z, Z, Z, Z, Z, Z, Z, Z, Z, Z, Z, Z, Z, Z, Z, Z], []⟩
theorem zhv (s0 : ByteArray) (s6 : Int) (s7 : Int) (s8 : Int) (k : List Fr) : Le (zeR s0 s6 s7 s8 k) (zaU s0 s6 s7 s8) (zeQ s0 s6 s7 s8 k) := by
 unfold zaU zeQ zsE
 repeat' (try conv => arg 3; simp (maxSteps := 999999) only [sx, ty, ↓reduceIte, seval, *, zud]); first
  | with_reducible refine Le.idxB fun _ _ _ _ => ?_
  | ((with_reducible refine Le.ret ?_); first | exact rfl | exact Pu.mk)
  | with_reducible refine Le.itq (fun _ => ?_) (fun _ => ?_)
noncomputable abbrev zch (s0 : ByteArray) (s6 : Int) (s7 : Int) (s8 : Int) (k : List Fr) : Option Res := go T (enF [.tmp 2, .tmp 3, .tmp 4, .tmp 5] []) zpH (.lp zpI :: .bl 0 :: .sq (.clr [2,3,4,5,8,9,10,11,12,13,14,15,16,17,18,19,20,21,22,23,24,25,26,27,28,29,30,31,32]) :: k) ⟨[.d (D.str s0), Z, Z, Z, Z, Z, .d (D.int .i64 s6), .d (D.int .i64 s7), .d (D.int .i64 s8), Z, Z, Z, Z, Z, Z, Z, Z, Z, Z, Z, Z, Z, Z, Z, Z, Z, Z, Z, Z, Z, Z, Z, Z, Z, Z, Z, Z, Z, Z, Z, Z, Z, Z, Z, Z, Z, Z, Z, Z, Z, Z, Z, Z, Z], []⟩
noncomputable abbrev zci (s0 : ByteArray) (k : List Fr) (t : (Int × Int)) (x : Option Res) : Prop := x = bk T (enF [.tmp 2, .tmp 3, .tmp 4, .tmp 5] []) k ⟨[.d (D.str s0), Z, Z, Z, Z, Z, .d (D.int .i64 t.1), .d (D.int .i64 t.2), Z, Z, Z, Z, Z, Z, Z, Z, Z, Z, Z, Z, Z, Z, Z, Z, Z, Z, Z, Z, Z, Z, Z, Z, Z, Z, Z, Z, Z, Z, Z, Z, Z, Z, Z, Z, Z, Z, Z, Z, Z, Z, Z, Z, Z, Z], []⟩
theorem zhw (s0 : ByteArray) : ∀ (s6 : Int) (s7 : Int) (s8 : Int) (k : List Fr), Le (zci s0 k) (zaV s0 s6 s7 s8) (zch s0 s6 s7 s8 k) := by
 intro s6 s7 s8 k
 refine Le.cp (X := zch s0 s6 s7 s8) (Q := zci s0) ?_ k
 refine zaV.partial_correctness s0 (motive := fun s6 s7 s8 r => ∀ k : List Fr, zci s0 k r (zch s0 s6 s7 s8 k)) ?_ s6 s7 s8
 intro rec hrec s6 s7 s8
 refine Le.pc ?_
 intro k
 unfold zch zpH
 repeat' (try conv => arg 3; simp (maxSteps := 999999) only [sx, ty, ↓reduceIte, seval, *, zud]); first
  | (refine Le.via (zhv _ _ _ _ _) fun _ _ _ hy => ?_; try dsimp only [zeR] at hy; first | subst hy | obtain ⟨_, rfl⟩ := hy)
  | with_reducible refine Le.idxB fun _ _ _ _ => ?_
  | ((with_reducible refine Le.ret ?_); first | exact rfl | exact Pu.mk)
  | with_reducible refine Le.itq (fun _ => ?_) (fun _ => ?_)
  | exact fun r hr => hrec _ _ _ r hr k
noncomputable abbrev zeS (s0 : ByteArray) (s6 : Int) (s7 : Int) (k : List Fr) : Option Res := go T (enF [.tmp 2, .tmp 3, .tmp 4, .tmp 5] []) zsF k ⟨[.d (D.str s0), Z, Z, Z, Z, Z, .d (D.int .i64 s6), .d (D.int .i64 s7), Z, Z, Z, Z, Z, Z, Z, Z, Z, Z, Z, Z, Z, Z, Z, Z, Z, Z, Z, Z, Z, Z, Z, Z, Z, Z, Z, Z, Z, Z, Z, Z, Z, Z, Z, Z, Z, Z, Z, Z, Z, Z, Z, Z, Z, Z], []⟩
noncomputable abbrev zhx (s0 : ByteArray) (s6 : Int) (s7 : Int) (k : List Fr) (t : ((ByteArray × (List ByteArray) × (List ByteArray) × Bool))) (x : Option Res) : Prop := Pu (D.tup [D.str t.1, D.sl true 1 (List.map D.str t.2.1), D.sl true 1 (List.map D.str t.2.2.1), D.bool t.2.2.2]) [] x
theorem zhy (s0 : ByteArray) (s6 : Int) (s7 : Int) (k : List Fr) : Le (zhx s0 s6 s7 k) (zcI s0 s6 s7) (zeS s0 s6 s7 k) := by
 unfold zcI zeS zsF
 repeat' (try conv => arg 3; simp (maxSteps := 999999) only [sx, ty, ↓reduceIte, seval, *, zud]); first
  | (refine Le.dcall (znV _) fun _ _ _ hy => ?_; obtain ⟨_, rfl⟩ := hy)
  | with_reducible refine Le.subBH fun _ _ _ _ => ?_
  | with_reducible refine Le.subB fun _ _ _ _ _ _ => ?_
  | with_reducible refine Le.subBL fun _ _ _ _ => ?_
  | ((with_reducible refine Le.ret ?_); first | exact rfl | exact Pu.mk)
theorem zjf (p0 : ByteArray) : Le (fun r x => Pu (D.tup [D.str r.1, D.sl true 1 (List.map D.str r.2.1), D.sl true 1 (List.map D.str r.2.2.1), D.bool r.2.2.2]) [] x) (zdi p0) (zac T 24 [D.str p0] []) := by
 unfold zdi
 refine Le.enter (g := v24) rfl rfl rfl rfl ?_
 repeat' (try conv => arg 3; simp (maxSteps := 999999) only [sx, ty, ↓reduceIte, seval, *, zud, v24, zxD]); first
  | (refine Le.via (zhw _ _ _ _ _) fun _ _ _ hy => ?_; try dsimp only [zci] at hy; first | subst hy | obtain ⟨_, rfl⟩ := hy)
  | exact zhy _ _ _ _
  | ((with_reducible refine Le.ret ?_); first | exact rfl | exact Pu.mk)
  | with_reducible refine Le.itq (fun _ => ?_) (fun _ => ?_)
theorem zic (p0 : TFunction) : Le (fun r x => Pu (D.agg [D.str r.Name, D.sl true 1 (List.map D.str r.Params), D.sl true 1 (List.map D.str r.Locals), D.str r.Label]) [] x) (zcn p0) (zac T 63 [D.agg [D.str p0.Name, D.sl false 1 (List.map D.str p0.Params), D.sl false 1 (List.map D.str p0.Locals), D.str p0.Label]] []) := by
 unfold zcn
 refine Le.enter (g := v63) rfl rfl rfl rfl ?_
 repeat' (try conv => arg 3; simp (maxSteps := 999999) only [sx, ty, ↓reduceIte, seval, *, v63, zyh]); first
  | with_reducible refine Le.chk fun _ => ?_
  | ((with_reducible refine Le.ret ?_); first | exact rfl | exact Pu.mk)
theorem zlb (p0 : TRecordType) : Le (fun r x => Pu (D.agg [D.str r.Name, D.sl true 1 (List.map D.str r.Fields)]) [] x) (zeb p0) (zac T 64 [D.agg [D.str p0.Name, D.sl false 1 (List.map D.str p0.Fields)]] []) := by
 unfold zeb
 refine Le.enter (g := v64) rfl rfl rfl rfl ?_
 repeat' (try conv => arg 3; simp (maxSteps := 999999) only [sx, ty, ↓reduceIte, seval, *, v64, zyi]); first
  | with_reducible refine Le.chk fun _ => ?_
  | ((with_reducible refine Le.ret ?_); first | exact rfl | exact Pu.mk)
noncomputable abbrev zey (s1 : TScope) (s2 : TScope) (s3 : TScope) (s4 : Int) (k : List Fr) : Option Res := go T (enF [.cell 2 (.many 3)] []) zpJ (.lp zpK :: .bl 0 :: .sq (.clr [0,4,6,7,8,9,10,11,12,13,14,15,16,17,18,19,20,21,22,23,24,25,26,27,28]) :: k) ⟨[Z, .box [D.sl false 5 (List.map (TBinding.e false) s1.Vars), D.sl false 4 (List.map (TFunction.e false) s1.Functions), D.sl false 2 (List.map (TRecordType.e false) s1.Types)], .box [D.sl true 5 (List.map (TBinding.e false) s2.Vars), D.sl true 4 (List.map (TFunction.e true) s2.Functions), D.sl true 2 (List.map (TRecordType.e true) s2.Types)], .box [D.sl true 5 (List.map (TBinding.e false) s3.Vars), D.sl true 4 (List.map (TFunction.e true) s3.Functions), D.sl true 2 (List.map (TRecordType.e true) s3.Types)], .d (D.int .i64 s4), Z, Z, Z, Z, Z, Z, Z, Z, Z, Z, Z, Z, Z, Z, Z, Z, Z, Z, Z, Z, Z, Z, Z, Z, Z, Z, Z, Z, Z, Z, Z, Z, Z, Z, Z, Z, Z, Z, Z, Z, Z, Z, Z], []⟩
noncomputable abbrev zez (s1 : TScope) (s2 : TScope) (k : List Fr) (t : TScope) (x : Option Res) : Prop := x = bk T (enF [.cell 2 (.many 3)] []) k ⟨[Z, .box [D.sl false 5 (List.map (TBinding.e false) s1.Vars), D.sl false 4 (List.map (TFunction.e false) s1.Functions), D.sl false 2 (List.map (TRecordType.e false) s1.Types)], .box [D.sl true 5 (List.map (TBinding.e false) s2.Vars), D.sl true 4 (List.map (TFunction.e true) s2.Functions), D.sl true 2 (List.map (TRecordType.e true) s2.Types)], .box [D.sl true 5 (List.map (TBinding.e false) t.Vars), D.sl true 4 (List.map (TFunction.e true) t.Functions), D.sl true 2 (List.map (TRecordType.e true) t.Types)], Z, Z, Z, Z, Z, Z, Z, Z, Z, Z, Z, Z, Z, Z, Z, Z, Z, Z, Z, Z, Z, Z, Z, Z, Z, Z, Z, Z, Z, Z, Z, Z, Z, Z, Z, Z, Z, Z, Z, Z, Z, Z, Z, Z], []⟩
theorem zmA (s1 : TScope) (s2 : TScope) : ∀ (s3 : TScope) (s4 : Int) (k : List Fr), Le (zez s1 s2 k) (zeO s1 s2 s3 s4) (zey s1 s2 s3 s4 k) := by
 intro s3 s4 k
 refine Le.cp (X := zey s1 s2 s3 s4) (Q := zez s1 s2) ?_ k
 refine zeO.partial_correctness s1 s2 (motive := fun s3 s4 r => ∀ k : List Fr, zez s1 s2 k r (zey s1 s2 s3 s4 k)) ?_ s3 s4
 intro rec hrec s3 s4
 refine Le.pc ?_
 intro k
 unfold zey zpJ
 try conv => arg 3; simp (maxSteps := 999999) only [sx, ty, ↓reduceIte, seval, *, zip, ziq]
 refine Le.itq (fun h => ?_) (fun h => ?_)
 ·try conv => arg 3; simp (maxSteps := 999999) only [sx, ty, ↓reduceIte, seval, *, zip, ziq]
  refine Le.idx fun a23 h_1 h_2 h_3 => ?_
  try conv => arg 3; simp (maxSteps := 999999) only [sx, ty, ↓reduceIte, seval, *, zip, ziq]
  refine Le.dcall (zic a23) fun r25 h_4 _ hy => ?_
  obtain ⟨_, rfl⟩ := hy
  try conv => arg 3; simp (maxSteps := 999999) only [sx, ty, ↓reduceIte, seval, *, zip, ziq]
  refine Le.app fun c27 h_5 h_6 => ?_
  replace h_5 : List.map (TFunction.e true) s3.Functions ++ [D.agg [D.str r25.Name, D.sl true 1 (List.map D.str r25.Params), D.sl true 1 (List.map D.str r25.Locals), D.str r25.Label]] = List.map (TFunction.e true) c27 := by rw [h_5, List.map_append] <;> rfl
  replace h_6 : s3.Functions.length + 1 ≤ most := h_6
  try conv => arg 3; simp (maxSteps := 999999) only [sx, ty, ↓reduceIte, seval, *, zip, ziq]
  exact fun r hr => hrec _ _ r hr k
 ·try conv => arg 3; simp (maxSteps := 999999) only [sx, ty, ↓reduceIte, seval, *, zip, ziq]
  ((with_reducible refine Le.ret ?_); first | exact rfl | exact Pu.mk)
noncomputable abbrev zeA (s1 : TScope) (s2 : TScope) (s3 : TScope) (s5 : Int) (k : List Fr) : Option Res := go T (enF [.cell 2 (.many 3)] []) zpL (.lp zpM :: .bl 2 :: .sq (.clr [0,1,4,5,6,7,8,9,10,11,12,13,14,15,16,17,18,19,20,21,22,23,24,25,26,27,28,29,30,31,32,33,34,35,36,37,38,39,40,41,42,43,44,45,46]) :: k) ⟨[Z, .box [D.sl false 5 (List.map (TBinding.e false) s1.Vars), D.sl false 4 (List.map (TFunction.e false) s1.Functions), D.sl false 2 (List.map (TRecordType.e false) s1.Types)], .box [D.sl true 5 (List.map (TBinding.e false) s2.Vars), D.sl true 4 (List.map (TFunction.e true) s2.Functions), D.sl true 2 (List.map (TRecordType.e true) s2.Types)], .box [D.sl true 5 (List.map (TBinding.e false) s3.Vars), D.sl true 4 (List.map (TFunction.e true) s3.Functions), D.sl true 2 (List.map (TRecordType.e true) s3.Types)], Z, .d (D.int .i64 s5), Z, Z, Z, Z, Z, Z, Z, Z, Z, Z, Z, Z, Z, Z, Z, Z, Z, Z, Z, Z, Z, Z, Z, Z, Z, Z, Z, Z, Z, Z, Z, Z, Z, Z, Z, Z, Z, Z, Z, Z, Z, Z], []⟩
noncomputable abbrev zeB (s1 : TScope) (s2 : TScope) (k : List Fr) (t : TScope) (x : Option Res) : Prop := x = bk T (enF [.cell 2 (.many 3)] []) k ⟨[Z, Z, .box [D.sl true 5 (List.map (TBinding.e false) s2.Vars), D.sl true 4 (List.map (TFunction.e true) s2.Functions), D.sl true 2 (List.map (TRecordType.e true) s2.Types)], .box [D.sl true 5 (List.map (TBinding.e false) t.Vars), D.sl true 4 (List.map (TFunction.e true) t.Functions), D.sl true 2 (List.map (TRecordType.e true) t.Types)], Z, Z, Z, Z, Z, Z, Z, Z, Z, Z, Z, Z, Z, Z, Z, Z, Z, Z, Z, Z, Z, Z, Z, Z, Z, Z, Z, Z, Z, Z, Z, Z, Z, Z, Z, Z, Z, Z, Z, Z, Z, Z, Z, Z], []⟩
theorem zmB (s1 : TScope) (s2 : TScope) : ∀ (s3 : TScope) (s5 : Int) (k : List Fr), Le (zeB s1 s2 k) (zeP s1 s2 s3 s5) (zeA s1 s2 s3 s5 k) := by
 intro s3 s5 k
 refine Le.cp (X := zeA s1 s2 s3 s5) (Q := zeB s1 s2) ?_ k
 refine zeP.partial_correctness s1 s2 (motive := fun s3 s5 r => ∀ k : List Fr, zeB s1 s2 k r (zeA s1 s2 s3 s5 k)) ?_ s3 s5
 intro rec hrec s3 s5
 refine Le.pc ?_
 intro k
 unfold zeA zpL
 try conv => arg 3; simp (maxSteps := 999999) only [sx, ty, ↓reduceIte, seval, *, zip, ziq]
 refine Le.itq (fun h => ?_) (fun h => ?_)
 ·try conv => arg 3; simp (maxSteps := 999999) only [sx, ty, ↓reduceIte, seval, *, zip, ziq]
  refine Le.idx fun a41 h_1 h_2 h_3 => ?_
  try conv => arg 3; simp (maxSteps := 999999) only [sx, ty, ↓reduceIte, seval, *, zip, ziq]
  refine Le.dcall (zlb a41) fun r43 h_4 _ hy => ?_
  obtain ⟨_, rfl⟩ := hy
  try conv => arg 3; simp (maxSteps := 999999) only [sx, ty, ↓reduceIte, seval, *, zip, ziq]
  refine Le.app fun c45 h_5 h_6 => ?_
  replace h_5 : List.map (TRecordType.e true) s3.Types ++ [D.agg [D.str r43.Name, D.sl true 1 (List.map D.str r43.Fields)]] = List.map (TRecordType.e true) c45 := by rw [h_5, List.map_append] <;> rfl
  replace h_6 : s3.Types.length + 1 ≤ most := h_6
  try conv => arg 3; simp (maxSteps := 999999) only [sx, ty, ↓reduceIte, seval, *, zip, ziq]
  exact fun r hr => hrec _ _ r hr k
 ·try conv => arg 3; simp (maxSteps := 999999) only [sx, ty, ↓reduceIte, seval, *, zip, ziq]
  ((with_reducible refine Le.ret ?_); first | exact rfl | exact Pu.mk)
theorem zrk (p0 : TScope) : Le (fun r x => Pu (D.agg [D.sl true 5 (List.map (TBinding.e false) r.Vars), D.sl true 4 (List.map (TFunction.e true) r.Functions), D.sl true 2 (List.map (TRecordType.e true) r.Types)]) [] x) (zhY p0) (zac T 26 [D.agg [D.sl false 5 (List.map (TBinding.e false) p0.Vars), D.sl false 4 (List.map (TFunction.e false) p0.Functions), D.sl false 2 (List.map (TRecordType.e false) p0.Types)]] []) := by
 unfold zhY
 refine Le.enter (g := v26) rfl rfl rfl rfl ?_
 repeat' (try conv => arg 3; simp (maxSteps := 999999) only [sx, ty, ↓reduceIte, seval, *, zip, ziq, v26, zxF]); first
  | (refine Le.via (zmA _ _ _ _ _) fun _ _ _ hy => ?_; try dsimp only [zez] at hy; first | subst hy | obtain ⟨_, rfl⟩ := hy)
  | (refine Le.via (zmB _ _ _ _ _) fun _ _ _ hy => ?_; try dsimp only [zeB] at hy; first | subst hy | obtain ⟨_, rfl⟩ := hy)
  | with_reducible refine Le.chk fun _ => ?_
  | ((with_reducible refine Le.ret ?_); first | exact rfl | exact Pu.mk)
noncomputable abbrev zfz (s1 : ByteArray) (s4 : TScope) (s6 : ByteArray) (s10 : TRecordType) (s11 : TScope) (s12 : List TRecordType) (s13 : Int) (k : List Fr) : Option Res := go T (enF [.cell 4 (.many 3), .tmp 5] []) zvV k ⟨[Z, .d (D.str s1), Z, Z, .box [D.sl true 5 (List.map (TBinding.e false) s4.Vars), D.sl true 4 (List.map (TFunction.e true) s4.Functions), D.sl true 2 (List.map (TRecordType.e true) s4.Types)], Z, .d (D.str s6), Z, Z, Z, .box [D.str s10.Name, D.sl false 1 (List.map D.str s10.Fields)], .box [D.sl false 5 (List.map (TBinding.e false) s11.Vars), D.sl false 4 (List.map (TFunction.e false) s11.Functions), D.sl false 2 (List.map (TRecordType.e false) s11.Types)], .d (D.sl true 2 (List.map (TRecordType.e false) s12)), .d (D.int .i64 s13), Z, Z, Z, Z, Z, Z, Z, Z, Z, Z, Z, Z, Z, Z, Z, Z, Z, Z, Z, Z, Z, Z, Z, Z, Z, Z, Z, Z, Z, Z, Z, Z, Z, Z, Z, Z, Z, Z, Z, Z, Z, Z, Z, Z, Z, Z, Z, Z, Z, Z, Z, Z, Z, Z, Z, Z, Z, Z, Z, Z, Z, Z, Z, Z, Z, Z, Z, Z, Z, Z, Z, Z, Z, Z, Z, Z, Z, Z, Z, Z, Z, Z, Z, Z, Z, Z, Z, Z, Z], []⟩
noncomputable abbrev zfA (s1 : ByteArray) (s4 : TScope) (s6 : ByteArray) (s10 : TRecordType) (s11 : TScope) (s12 : List TRecordType) (s13 : Int) (k : List Fr) (t : ((List TRecordType) × Int × (List TRecordType) × ByteArray × (List ByteArray) × TRecordType × (List TRecordType) × Int)) (x : Option Res) : Prop := x = bk T (enF [.cell 4 (.many 3), .tmp 5] []) k ⟨[Z, .d (D.str s1), Z, Z, .box [D.sl true 5 (List.map (TBinding.e false) s4.Vars), D.sl true 4 (List.map (TFunction.e true) s4.Functions), D.sl true 2 (List.map (TRecordType.e true) s4.Types)], Z, .d (D.str s6), Z, Z, Z, .box [D.str s10.Name, D.sl false 1 (List.map D.str s10.Fields)], .box [D.sl false 5 (List.map (TBinding.e false) s11.Vars), D.sl false 4 (List.map (TFunction.e false) s11.Functions), D.sl false 2 (List.map (TRecordType.e false) s11.Types)], .d (D.sl true 2 (List.map (TRecordType.e false) t.1)), .d (D.int .i64 t.2.1), Z, Z, Z, Z, Z, Z, Z, Z, Z, Z, Z, Z, Z, Z, Z, Z, Z, Z, Z, Z, Z, Z, Z, Z, Z, Z, Z, Z, Z, Z, Z, Z, Z, Z, Z, Z, Z, Z, Z, Z, Z, Z, Z, Z, Z, Z, .ptr ⟨.slot 11, [], 2⟩, .d (D.sl false 2 (List.map (TRecordType.e false) t.2.2.1)), .d (D.int .i64 s13), .d (D.pim [D.str t.2.2.2.1, D.sl false 1 (List.map D.str t.2.2.2.2.1)] 0), .d (D.agg [D.str t.2.2.2.2.2.1.Name, D.sl false 1 (List.map D.str t.2.2.2.2.2.1.Fields)]), .d (D.sl true 2 (List.map (TRecordType.e false) t.2.2.2.2.2.2.1)), Z, .d (D.int .i64 s13), .d (D.int .i64 t.2.2.2.2.2.2.2), Z, Z, Z, Z, Z, Z, Z, Z, Z, Z, Z, Z, Z, Z, Z, Z, Z, Z, Z, Z, Z, Z, Z, Z, Z, Z, Z, Z, Z, Z, Z, Z, Z, Z], []⟩
theorem ziF (s1 : ByteArray) (s4 : TScope) (s6 : ByteArray) (s10 : TRecordType) (s11 : TScope) (s12 : List TRecordType) (s13 : Int) (k : List Fr) : Le (zfA s1 s4 s6 s10 s11 s12 s13 k) (zdD s1 s4 s6 s10 s11 s12 s13) (zfz s1 s4 s6 s10 s11 s12 s13 k) := by
 unfold zdD zfz zvV
 try conv => arg 3; simp (maxSteps := 999999) only [sx, ty, ↓reduceIte, seval, *, w7_1]
 refine Le.idx fun a63 h h_1 h_2 => ?_
 try conv => arg 3; simp (maxSteps := 999999) only [sx, ty, ↓reduceIte, seval, *, w7_1]
 refine Le.app fun c66 h_3 h_4 => ?_
 replace h_3 : List.map (TRecordType.e false) s12 ++ [D.agg [D.str a63.Name, D.sl false 1 (List.map D.str a63.Fields)]] = List.map (TRecordType.e false) c66 := by rw [h_3, List.map_append] <;> rfl
 replace h_4 : s12.length + 1 ≤ most := h_4
 try conv => arg 3; simp (maxSteps := 999999) only [sx, ty, ↓reduceIte, seval, *, w7_1]
 ((with_reducible refine Le.ret ?_); first | exact rfl | exact Pu.mk)
noncomputable abbrev zcT (s1 : ByteArray) (s4 : TScope) (s6 : ByteArray) (s10 : TRecordType) (s11 : TScope) (s12 : List TRecordType) (s13 : Int) (k : List Fr) : Option Res := go T (enF [.cell 4 (.many 3), .tmp 5] []) zub (.lp zuc :: .bl 0 :: .sq (.clr [0,2,5,7,8,9,14,15,16,17,18,19,20,21,22,23,24,25,26,27,28,29,30,31,32,33,34,35,36,37,38,39,40,41,42,43,44,45,46,47,48,49,50,51,52,53,54,55,56,57,58,59,60,61,62,63,64,65,66,67,68]) :: k) ⟨[Z, .d (D.str s1), Z, Z, .box [D.sl true 5 (List.map (TBinding.e false) s4.Vars), D.sl true 4 (List.map (TFunction.e true) s4.Functions), D.sl true 2 (List.map (TRecordType.e true) s4.Types)], Z, .d (D.str s6), Z, Z, Z, .box [D.str s10.Name, D.sl false 1 (List.map D.str s10.Fields)], .box [D.sl false 5 (List.map (TBinding.e false) s11.Vars), D.sl false 4 (List.map (TFunction.e false) s11.Functions), D.sl false 2 (List.map (TRecordType.e false) s11.Types)], .d (D.sl true 2 (List.map (TRecordType.e false) s12)), .d (D.int .i64 s13), Z, Z, Z, Z, Z, Z, Z, Z, Z, Z, Z, Z, Z, Z, Z, Z, Z, Z, Z, Z, Z, Z, Z, Z, Z, Z, Z, Z, Z, Z, Z, Z, Z, Z, Z, Z, Z, Z, Z, Z, Z, Z, Z, Z, Z, Z, Z, Z, Z, Z, Z, Z, Z, Z, Z, Z, Z, Z, Z, Z, Z, Z, Z, Z, Z, Z, Z, Z, Z, Z, Z, Z, Z, Z, Z, Z, Z, Z, Z, Z, Z, Z, Z, Z, Z, Z, Z, Z, Z], []⟩
noncomputable abbrev zcU (s1 : ByteArray) (s4 : TScope) (s6 : ByteArray) (s10 : TRecordType) (s11 : TScope) (k : List Fr) (t : ((List TRecordType) × Int)) (x : Option Res) : Prop := x = bk T (enF [.cell 4 (.many 3), .tmp 5] []) k ⟨[Z, .d (D.str s1), Z, Z, .box [D.sl true 5 (List.map (TBinding.e false) s4.Vars), D.sl true 4 (List.map (TFunction.e true) s4.Functions), D.sl true 2 (List.map (TRecordType.e true) s4.Types)], Z, .d (D.str s6), Z, Z, Z, .box [D.str s10.Name, D.sl false 1 (List.map D.str s10.Fields)], .box [D.sl false 5 (List.map (TBinding.e false) s11.Vars), D.sl false 4 (List.map (TFunction.e false) s11.Functions), D.sl false 2 (List.map (TRecordType.e false) s11.Types)], .d (D.sl true 2 (List.map (TRecordType.e false) t.1)), .d (D.int .i64 t.2), Z, Z, Z, Z, Z, Z, Z, Z, Z, Z, Z, Z, Z, Z, Z, Z, Z, Z, Z, Z, Z, Z, Z, Z, Z, Z, Z, Z, Z, Z, Z, Z, Z, Z, Z, Z, Z, Z, Z, Z, Z, Z, Z, Z, Z, Z, Z, Z, Z, Z, Z, Z, Z, Z, Z, Z, Z, Z, Z, Z, Z, Z, Z, Z, Z, Z, Z, Z, Z, Z, Z, Z, Z, Z, Z, Z, Z, Z, Z, Z, Z, Z, Z, Z, Z, Z, Z, Z, Z], []⟩
theorem ziG (s1 : ByteArray) (s4 : TScope) (s6 : ByteArray) (s10 : TRecordType) (s11 : TScope) : ∀ (s12 : List TRecordType) (s13 : Int) (k : List Fr), Le (zcU s1 s4 s6 s10 s11 k) (zcy s1 s4 s6 s10 s11 s12 s13) (zcT s1 s4 s6 s10 s11 s12 s13 k) := by
 intro s12 s13 k
 refine Le.cp (X := zcT s1 s4 s6 s10 s11 s12 s13) (Q := zcU s1 s4 s6 s10 s11) ?_ k
 refine zcy.partial_correctness s1 s4 s6 s10 s11 (motive := fun s12 s13 r => ∀ k : List Fr, zcU s1 s4 s6 s10 s11 k r (zcT s1 s4 s6 s10 s11 s12 s13 k)) ?_ s12 s13
 intro rec hrec s12 s13
 refine Le.pc ?_
 intro k
 unfold zcT zub
 repeat' (try conv => arg 3; simp (maxSteps := 999999) only [sx, ty, ↓reduceIte, seval, *, w7_1]); first
  | (refine Le.via (ziF _ _ _ _ _ _ _ _) fun _ _ _ hy => ?_; try dsimp only [zfA] at hy; first | subst hy | obtain ⟨_, rfl⟩ := hy)
  | with_reducible refine Le.idx fun _ _ _ _ => ?_
  | with_reducible refine Le.bool (fun _ => ?_) (fun _ => ?_)
  | ((with_reducible refine Le.ret ?_); first | exact rfl | exact Pu.mk)
  | with_reducible refine Le.itq (fun _ => ?_) (fun _ => ?_)
  | exact fun r hr => hrec _ _ r hr k
noncomputable abbrev zfB (s1 : ByteArray) (s4 : TScope) (s11 : TScope) (s12 : List TRecordType) (s13 : Int) (k : List Fr) : Option Res := go T (enF [.cell 4 (.many 3), .tmp 5] []) zvW k ⟨[Z, .d (D.str s1), Z, Z, .box [D.sl true 5 (List.map (TBinding.e false) s4.Vars), D.sl true 4 (List.map (TFunction.e true) s4.Functions), D.sl true 2 (List.map (TRecordType.e true) s4.Types)], Z, Z, Z, Z, Z, Z, .box [D.sl false 5 (List.map (TBinding.e false) s11.Vars), D.sl false 4 (List.map (TFunction.e false) s11.Functions), D.sl false 2 (List.map (TRecordType.e false) s11.Types)], .d (D.sl true 2 (List.map (TRecordType.e false) s12)), .d (D.int .i64 s13), Z, Z, Z, Z, Z, Z, Z, Z, Z, Z, Z, Z, Z, Z, Z, Z, Z, Z, Z, Z, Z, Z, Z, Z, Z, Z, Z, Z, Z, Z, Z, Z, Z, Z, Z, Z, Z, Z, Z, Z, Z, Z, Z, Z, Z, Z, Z, Z, Z, Z, Z, Z, Z, Z, Z, Z, Z, Z, Z, Z, Z, Z, Z, Z, Z, Z, Z, Z, Z, Z, Z, Z, Z, Z, Z, Z, Z, Z, Z, Z, Z, Z, Z, Z, Z, Z, Z, Z, Z], []⟩
noncomputable abbrev zfC (s1 : ByteArray) (s4 : TScope) (s11 : TScope) (s12 : List TRecordType) (s13 : Int) (k : List Fr) (t : (((TScope × Int) ⊕ (TScope × Int)))) (x : Option Res) : Prop := match t with | .inl r => Pu (D.tup [D.agg [D.sl true 5 (List.map (TBinding.e false) r.1.Vars), D.sl true 4 (List.map (TFunction.e true) r.1.Functions), D.sl true 2 (List.map (TRecordType.e true) r.1.Types)], D.int .i64 r.2]) [] x | .inr r => Pu (D.tup [D.agg [D.sl false 5 (List.map (TBinding.e false) r.1.Vars), D.sl false 4 (List.map (TFunction.e false) r.1.Functions), D.sl true 2 (List.map (TRecordType.e false) r.1.Types)], D.int .i64 r.2]) [] x
theorem ziH (s1 : ByteArray) (s4 : TScope) (s11 : TScope) (s12 : List TRecordType) (s13 : Int) (k : List Fr) : Le (zfC s1 s4 s11 s12 s13 k) (zbc s1 s4 s11 s12 s13) (zfB s1 s4 s11 s12 s13 k) := by
 unfold zbc zfB zvW
 try conv => arg 3; simp (maxSteps := 999999) only [sx, ty, ↓reduceIte, seval, *, w7_1]
 refine Le.subL fun c94 h h_1 h_2 => ?_
 replace h : List.take (s11.Types.length - s13.toNat) (List.drop s13.toNat (List.map (TRecordType.e false) s11.Types)) = List.map (TRecordType.e false) c94 := by rw [h]; exact zsp ..
 try conv => arg 3; simp (maxSteps := 999999) only [sx, ty, ↓reduceIte, seval, *, w7_1]
 refine Le.app fun c95 h_3 h_4 => ?_
 replace h_3 : List.map (TRecordType.e false) s12 ++ List.map (TRecordType.e false) c94 = List.map (TRecordType.e false) c95 := by rw [h_3, List.map_append] <;> rfl
 replace h_4 : s12.length + c94.length ≤ most := h_4
 repeat' (try conv => arg 3; simp (maxSteps := 999999) only [sx, ty, ↓reduceIte, seval, *, w7_1]); first
  | ((with_reducible refine Le.ret ?_); first | exact rfl | exact Pu.mk)
  | with_reducible refine Le.itq (fun _ => ?_) (fun _ => ?_)
noncomputable abbrev zfD (s1 : ByteArray) (s2 : TScope) (s4 : TScope) (s6 : ByteArray) (s10 : TRecordType) (k : List Fr) : Option Res := go T (enF [.cell 4 (.many 3), .tmp 5] []) zvX k ⟨[Z, .d (D.str s1), .box [D.sl false 5 (List.map (TBinding.e false) s2.Vars), D.sl false 4 (List.map (TFunction.e false) s2.Functions), D.sl false 2 (List.map (TRecordType.e false) s2.Types)], Z, .box [D.sl true 5 (List.map (TBinding.e false) s4.Vars), D.sl true 4 (List.map (TFunction.e true) s4.Functions), D.sl true 2 (List.map (TRecordType.e true) s4.Types)], Z, .d (D.str s6), Z, Z, Z, .box [D.str s10.Name, D.sl false 1 (List.map D.str s10.Fields)], Z, Z, Z, Z, Z, Z, Z, Z, Z, Z, Z, Z, Z, Z, Z, Z, Z, Z, Z, Z, Z, Z, Z, Z, Z, Z, Z, Z, Z, Z, Z, Z, Z, Z, Z, Z, Z, Z, Z, Z, Z, Z, Z, Z, Z, Z, Z, Z, Z, Z, Z, Z, Z, Z, Z, Z, Z, Z, Z, Z, Z, Z, Z, Z, Z, Z, Z, Z, Z, Z, Z, Z, Z, Z, Z, Z, Z, Z, Z, Z, Z, Z, Z, Z, Z, Z, Z, Z, Z, Z, Z, Z], []⟩
noncomputable abbrev ziI (s1 : ByteArray) (s2 : TScope) (s4 : TScope) (s6 : ByteArray) (s10 : TRecordType) (k : List Fr) (t : (((TScope × Int) ⊕ (TScope × Int)))) (x : Option Res) : Prop := match t with | .inl r => Pu (D.tup [D.agg [D.sl true 5 (List.map (TBinding.e false) r.1.Vars), D.sl true 4 (List.map (TFunction.e true) r.1.Functions), D.sl true 2 (List.map (TRecordType.e true) r.1.Types)], D.int .i64 r.2]) [] x | .inr r => Pu (D.tup [D.agg [D.sl false 5 (List.map (TBinding.e false) r.1.Vars), D.sl false 4 (List.map (TFunction.e false) r.1.Functions), D.sl true 2 (List.map (TRecordType.e false) r.1.Types)], D.int .i64 r.2]) [] x
theorem ziJ (s1 : ByteArray) (s2 : TScope) (s4 : TScope) (s6 : ByteArray) (s10 : TRecordType) (k : List Fr) : Le (ziI s1 s2 s4 s6 s10 k) (zcz s1 s2 s4 s6 s10) (zfD s1 s2 s4 s6 s10 k) := by
 unfold zcz zfD zvX
 try conv => arg 3; simp (maxSteps := 999999) only [sx, ty, ↓reduceIte, seval, *, w7_1]
 refine Le.call (zrk s2) fun r42 h _ hy => ?_
 obtain ⟨_, rfl⟩ := hy
 try conv => arg 3; simp (maxSteps := 999999) only [sx, ty, ↓reduceIte, seval, *, w7_1]
 refine Le.via (ziG s1 s4 s6 s10 r42 ([]) 0 _) fun t h_1 _ hy => ?_
 try dsimp only [zcU] at hy; first | subst hy | obtain ⟨_, rfl⟩ := hy
 try conv => arg 3; simp (maxSteps := 999999) only [sx, ty, ↓reduceIte, seval, *, w7_1]
 refine Le.app fun c72 h_2 h_3 => ?_
 replace h_2 : List.map (TRecordType.e false) t.1 ++ [D.agg [D.str s10.Name, D.sl false 1 (List.map D.str s10.Fields)]] = List.map (TRecordType.e false) c72 := by rw [h_2, List.map_append] <;> rfl
 replace h_3 : t.1.length + 1 ≤ most := h_3
 repeat' (try conv => arg 3; simp (maxSteps := 999999) only [sx, ty, ↓reduceIte, seval, *, w7_1]); first
  | (refine Le.via (ziH _ _ _ _ _ _) fun _ _ _ hy => ?_; try dsimp only [zfC] at hy; first | subst hy | obtain ⟨_, rfl⟩ := hy)
  | exact Le.ret hy
  | with_reducible refine Le.idx fun _ _ _ _ => ?_
  | with_reducible refine Le.itq (fun _ => ?_) (fun _ => ?_)
theorem zlc (p0 : TScope) (p1 : ByteArray) : Le (fun r x => match r with | .inl r => Pu (D.tup [D.agg [D.sl true 5 (List.map (TBinding.e false) r.1.Vars), D.sl true 4 (List.map (TFunction.e true) r.1.Functions), D.sl true 2 (List.map (TRecordType.e true) r.1.Types)], D.int .i64 r.2]) [] x | .inr r => Pu (D.tup [D.agg [D.sl false 5 (List.map (TBinding.e false) r.1.Vars), D.sl false 4 (List.map (TFunction.e false) r.1.Functions), D.sl true 2 (List.map (TRecordType.e false) r.1.Types)], D.int .i64 r.2]) [] x) (zec p0 p1) (zac T 7 [D.agg [D.sl false 5 (List.map (TBinding.e false) p0.Vars), D.sl false 4 (List.map (TFunction.e false) p0.Functions), D.sl false 2 (List.map (TRecordType.e false) p0.Types)], D.str p1] []) := by
 unfold zec
 refine Le.enter (g := v7) rfl rfl rfl rfl ?_
 repeat' (try conv => arg 3; simp (maxSteps := 999999) only [sx, ty, ↓reduceIte, seval, *, w7_1, v7, v7_b]); first
  | (refine Le.call (zla _) fun _ _ _ hy => ?_; obtain ⟨_, rfl⟩ := hy)
  | (refine Le.call (zjf _) fun _ _ _ hy => ?_; obtain ⟨_, rfl⟩ := hy)
  | (refine Le.call (zkn _) fun _ _ _ hy => ?_; obtain ⟨_, rfl⟩ := hy)
  | exact ziJ _ _ _ _ _ _
  | with_reducible refine Le.bool (fun _ => ?_) (fun _ => ?_)
  | ((with_reducible refine Le.ret ?_); first | exact rfl | exact Pu.mk)
  | with_reducible refine Le.itq (fun _ => ?_) (fun _ => ?_)
theorem ziK (p0 : TBinding) : Le (fun r x => Pu (D.str r) [] x) (zdE p0) (zac T 69 [D.agg [D.str p0.Name, D.int .i64 p0.Value.Kind, D.int .i64 p0.Value.Num, D.str p0.Value.Text, D.int .i64 p0.Value.Ref]] []) := by
 unfold zdE
 refine Le.enter (g := v69) rfl rfl rfl rfl ?_
 try conv => arg 3; simp (maxSteps := 999999) only [sx, ty, ↓reduceIte, seval, *, v69, zyo]
 ((with_reducible refine Le.ret ?_); first | exact rfl | exact Pu.mk)
noncomputable abbrev zbq (s0 : List TBinding) (s5 : Int) (k : List Fr) : Option Res := go T (enF [.tmp 4] []) zqh (.lp zqi :: .bl 0 :: .sq (.clr [4,5,6,7,8,9,10,11,12,13,14,15,16,17,18,19,20,21,22,23,24,25]) :: k) ⟨[.d (D.sl false 5 (List.map (TBinding.e false) s0)), .d (D.fn 69 []), Z, Z, Z, .d (D.int .i64 s5), Z, Z, Z, Z, Z, Z, Z, Z, Z, Z, Z, Z, Z, Z, Z, Z, Z, Z, Z, Z], []⟩
noncomputable abbrev zbr (s0 : List TBinding) (k : List Fr) (t : (Unit ⊕ Bool)) (x : Option Res) : Prop := match t with | .inl t => x = bk T (enF [.tmp 4] []) k ⟨[.d (D.sl false 5 (List.map (TBinding.e false) s0)), .d (D.fn 69 []), Z, Z, Z, Z, Z, Z, Z, Z, Z, Z, Z, Z, Z, Z, Z, Z, Z, Z, Z, Z, Z, Z, Z, Z], []⟩ | .inr t => Pu (D.bool t) [] x
theorem zfX (s0 : List TBinding) : ∀ (s5 : Int) (k : List Fr), Le (zbr s0 k) (zbC s0 s5) (zbq s0 s5 k) := by
 intro s5 k
 refine Le.cp (X := zbq s0 s5) (Q := zbr s0) ?_ k
 refine zbC.partial_correctness s0 (motive := fun s5 r => ∀ k : List Fr, zbr s0 k r (zbq s0 s5 k)) ?_ s5
 intro rec hrec s5
 refine Le.pc ?_
 intro k
 unfold zbq zqh
 repeat' (try conv => arg 3; simp (maxSteps := 999999) only [sx, ty, ↓reduceIte, seval, *, zym]); first
  | (refine Le.dcall (ziK _) fun _ _ _ hy => ?_; obtain ⟨_, rfl⟩ := hy)
  | with_reducible refine Le.idx fun _ _ _ _ => ?_
  | with_reducible refine Le.bool (fun _ => ?_) (fun _ => ?_)
  | ((with_reducible refine Le.ret ?_); first | exact rfl | exact Pu.mk)
  | with_reducible refine Le.itq (fun _ => ?_) (fun _ => ?_)
  | exact fun r hr => hrec _ r hr k
theorem zgX (p0 : List TBinding) : Le (fun r x => Pu (D.bool r) [] x) (zbD p0) (zac T 68 [D.sl false 5 (List.map (TBinding.e false) p0), D.fn 69 []] []) := by
 unfold zbD
 refine Le.enter (g := v68) rfl rfl rfl rfl ?_
 repeat' (try conv => arg 3; simp (maxSteps := 999999) only [sx, ty, ↓reduceIte, seval, *, zym, v68, zyn]); first
  | (refine Le.via (zfX _ _ _) fun t _ _ hy => ?_; rcases t with t | t <;> (try dsimp only [zbr] at hy; first | subst hy | obtain ⟨_, rfl⟩ := hy))
  | ((with_reducible refine Le.ret ?_); first | exact rfl | exact Pu.mk)
theorem zid (p0 : TFunction) : Le (fun r x => Pu (D.str r) [] x) (zdm p0) (zac T 71 [D.agg [D.str p0.Name, D.sl false 1 (List.map D.str p0.Params), D.sl false 1 (List.map D.str p0.Locals), D.str p0.Label]] []) := by
 unfold zdm
 refine Le.enter (g := v71) rfl rfl rfl rfl ?_
 try conv => arg 3; simp (maxSteps := 999999) only [sx, ty, ↓reduceIte, seval, *, v71, zyr]
 ((with_reducible refine Le.ret ?_); first | exact rfl | exact Pu.mk)
noncomputable abbrev zbl (s0 : List TFunction) (s5 : Int) (k : List Fr) : Option Res := go T (enF [.tmp 4] []) zqj (.lp zqk :: .bl 0 :: .sq (.clr [4,5,6,7,8,9,10,11,12,13,14,15,16,17,18,19,20,21,22,23,24,25]) :: k) ⟨[.d (D.sl false 4 (List.map (TFunction.e false) s0)), .d (D.fn 71 []), Z, Z, Z, .d (D.int .i64 s5), Z, Z, Z, Z, Z, Z, Z, Z, Z, Z, Z, Z, Z, Z, Z, Z, Z, Z, Z, Z], []⟩
noncomputable abbrev zbm (s0 : List TFunction) (k : List Fr) (t : (Unit ⊕ Bool)) (x : Option Res) : Prop := match t with | .inl t => x = bk T (enF [.tmp 4] []) k ⟨[.d (D.sl false 4 (List.map (TFunction.e false) s0)), .d (D.fn 71 []), Z, Z, Z, Z, Z, Z, Z, Z, Z, Z, Z, Z, Z, Z, Z, Z, Z, Z, Z, Z, Z, Z, Z, Z], []⟩ | .inr t => Pu (D.bool t) [] x
theorem zfE (s0 : List TFunction) : ∀ (s5 : Int) (k : List Fr), Le (zbm s0 k) (zbx s0 s5) (zbl s0 s5 k) := by
 intro s5 k
 refine Le.cp (X := zbl s0 s5) (Q := zbm s0) ?_ k
 refine zbx.partial_correctness s0 (motive := fun s5 r => ∀ k : List Fr, zbm s0 k r (zbl s0 s5 k)) ?_ s5
 intro rec hrec s5
 refine Le.pc ?_
 intro k
 unfold zbl zqj
 repeat' (try conv => arg 3; simp (maxSteps := 999999) only [sx, ty, ↓reduceIte, seval, *, zyp]); first
  | (refine Le.dcall (zid _) fun _ _ _ hy => ?_; obtain ⟨_, rfl⟩ := hy)
  | with_reducible refine Le.idx fun _ _ _ _ => ?_
  | with_reducible refine Le.bool (fun _ => ?_) (fun _ => ?_)
  | ((with_reducible refine Le.ret ?_); first | exact rfl | exact Pu.mk)
  | with_reducible refine Le.itq (fun _ => ?_) (fun _ => ?_)
  | exact fun r hr => hrec _ r hr k
theorem zgE (p0 : List TFunction) : Le (fun r x => Pu (D.bool r) [] x) (zbv p0) (zac T 70 [D.sl false 4 (List.map (TFunction.e false) p0), D.fn 71 []] []) := by
 unfold zbv
 refine Le.enter (g := v70) rfl rfl rfl rfl ?_
 repeat' (try conv => arg 3; simp (maxSteps := 999999) only [sx, ty, ↓reduceIte, seval, *, zyp, v70, zyq]); first
  | (refine Le.via (zfE _ _ _) fun t _ _ hy => ?_; rcases t with t | t <;> (try dsimp only [zbm] at hy; first | subst hy | obtain ⟨_, rfl⟩ := hy))
  | ((with_reducible refine Le.ret ?_); first | exact rfl | exact Pu.mk)
theorem zfg (p0 : TRecordType) : Le (fun r x => Pu (D.str r) [] x) (zce p0) (zac T 73 [D.agg [D.str p0.Name, D.sl false 1 (List.map D.str p0.Fields)]] []) := by
 unfold zce
 refine Le.enter (g := v73) rfl rfl rfl rfl ?_
 try conv => arg 3; simp (maxSteps := 999999) only [sx, ty, ↓reduceIte, seval, *, v73, zyu]
 ((with_reducible refine Le.ret ?_); first | exact rfl | exact Pu.mk)
noncomputable abbrev zaR (s0 : List TRecordType) (s5 : Int) (k : List Fr) : Option Res := go T (enF [.tmp 4] []) zql (.lp zqm :: .bl 0 :: .sq (.clr [4,5,6,7,8,9,10,11,12,13,14,15,16,17,18,19,20,21,22,23,24,25]) :: k) ⟨[.d (D.sl false 2 (List.map (TRecordType.e false) s0)), .d (D.fn 73 []), Z, Z, Z, .d (D.int .i64 s5), Z, Z, Z, Z, Z, Z, Z, Z, Z, Z, Z, Z, Z, Z, Z, Z, Z, Z, Z, Z], []⟩
noncomputable abbrev zaS (s0 : List TRecordType) (k : List Fr) (t : (Unit ⊕ Bool)) (x : Option Res) : Prop := match t with | .inl t => x = bk T (enF [.tmp 4] []) k ⟨[.d (D.sl false 2 (List.map (TRecordType.e false) s0)), .d (D.fn 73 []), Z, Z, Z, Z, Z, Z, Z, Z, Z, Z, Z, Z, Z, Z, Z, Z, Z, Z, Z, Z, Z, Z, Z, Z], []⟩ | .inr t => Pu (D.bool t) [] x
theorem zeU (s0 : List TRecordType) : ∀ (s5 : Int) (k : List Fr), Le (zaS s0 k) (zbi s0 s5) (zaR s0 s5 k) := by
 intro s5 k
 refine Le.cp (X := zaR s0 s5) (Q := zaS s0) ?_ k
 refine zbi.partial_correctness s0 (motive := fun s5 r => ∀ k : List Fr, zaS s0 k r (zaR s0 s5 k)) ?_ s5
 intro rec hrec s5
 refine Le.pc ?_
 intro k
 unfold zaR zql
 repeat' (try conv => arg 3; simp (maxSteps := 999999) only [sx, ty, ↓reduceIte, seval, *, zys]); first
  | (refine Le.dcall (zfg _) fun _ _ _ hy => ?_; obtain ⟨_, rfl⟩ := hy)
  | with_reducible refine Le.idx fun _ _ _ _ => ?_
  | with_reducible refine Le.bool (fun _ => ?_) (fun _ => ?_)
  | ((with_reducible refine Le.ret ?_); first | exact rfl | exact Pu.mk)
  | with_reducible refine Le.itq (fun _ => ?_) (fun _ => ?_)
  | exact fun r hr => hrec _ r hr k
theorem zfY (p0 : List TRecordType) : Le (fun r x => Pu (D.bool r) [] x) (zbd p0) (zac T 72 [D.sl false 2 (List.map (TRecordType.e false) p0), D.fn 73 []] []) := by
 unfold zbd
 refine Le.enter (g := v72) rfl rfl rfl rfl ?_
 repeat' (try conv => arg 3; simp (maxSteps := 999999) only [sx, ty, ↓reduceIte, seval, *, zys, v72, zyt]); first
  | (refine Le.via (zeU _ _ _) fun t _ _ hy => ?_; rcases t with t | t <;> (try dsimp only [zaS] at hy; first | subst hy | obtain ⟨_, rfl⟩ := hy))
  | ((with_reducible refine Le.ret ?_); first | exact rfl | exact Pu.mk)
theorem zja (p0 : Int) : Le (fun r x => Pu (D.bool r) [] x) (zeL p0) (zac T 91 [D.int .u8 p0] []) := by
 unfold zeL
 refine Le.enter (g := v91) rfl rfl rfl rfl ?_
 repeat' (try conv => arg 3; simp (maxSteps := 999999) only [sx, ty, ↓reduceIte, seval, *, v91, zyL]); first
  | ((with_reducible refine Le.ret ?_); first | exact rfl | exact Pu.mk)
  | with_reducible refine Le.itq (fun _ => ?_) (fun _ => ?_)
theorem zoQ (p0 : Int) : Le (fun r x => Pu (D.bool r) [] x) (zgA p0) (zac T 124 [D.int .u8 p0] []) := by
 unfold zgA
 refine Le.enter (g := v124) rfl rfl rfl rfl ?_
 repeat' (try conv => arg 3; simp (maxSteps := 999999) only [sx, ty, ↓reduceIte, seval, *, v124, zvj]); first
  | ((with_reducible refine Le.ret ?_); first | exact rfl | exact Pu.mk)
  | with_reducible refine Le.itq (fun _ => ?_) (fun _ => ?_)
theorem zld (p0 : Int) : Le (fun r x => Pu (D.bool r) [] x) (zdu p0) (zac T 93 [D.int .u8 p0] []) := by
 unfold zdu
 refine Le.enter (g := v93) rfl rfl rfl rfl ?_
 repeat' (try conv => arg 3; simp (maxSteps := 999999) only [sx, ty, ↓reduceIte, seval, *, v93, zyO]); first
  | (refine Le.call (zja _) fun _ _ _ hy => ?_; obtain ⟨_, rfl⟩ := hy)
  | (refine Le.call (zoQ _) fun _ _ _ hy => ?_; obtain ⟨_, rfl⟩ := hy)
  | with_reducible refine Le.bool (fun _ => ?_) (fun _ => ?_)
  | ((with_reducible refine Le.ret ?_); first | exact rfl | exact Pu.mk)
noncomputable abbrev zcs (s0 : List Int) (s7 : List Int) (s8 : Int) (s9 : Int) (k : List Fr) : Option Res := go T (enF [.tmp 4] []) zqy (.lp zqz :: .bl 0 :: .sq (.clr [4,6,7,8,9,10,11,12,13,14,15,16,17]) :: k) ⟨[.d (D.sl false 1 (List.map (D.int .u8) s0)), .d (D.fn 93 []), Z, Z, Z, Z, Z, .d (D.sl false 1 (List.map (D.int .u8) s7)), .d (D.int .i64 s8), .d (D.int .i64 s9), Z, Z, Z, Z, Z, Z, Z, Z], []⟩
noncomputable abbrev zct (s0 : List Int) (s7 : List Int) (s8 : Int) (k : List Fr) (t : (Unit ⊕ Bool)) (x : Option Res) : Prop := match t with | .inl t => x = bk T (enF [.tmp 4] []) k ⟨[.d (D.sl false 1 (List.map (D.int .u8) s0)), .d (D.fn 93 []), Z, Z, Z, Z, Z, Z, Z, Z, Z, Z, Z, Z, Z, Z, Z, Z], []⟩ | .inr t => Pu (D.bool t) [] x
theorem zie (s0 : List Int) (s7 : List Int) (s8 : Int) : ∀ (s9 : Int) (k : List Fr), Le (zct s0 s7 s8 k) (zdn s0 s7 s8 s9) (zcs s0 s7 s8 s9 k) := by
 intro s9 k
 refine Le.cp (X := zcs s0 s7 s8 s9) (Q := zct s0 s7 s8) ?_ k
 refine zdn.partial_correctness s0 s7 s8 (motive := fun s9 r => ∀ k : List Fr, zct s0 s7 s8 k r (zcs s0 s7 s8 s9 k)) ?_ s9
 intro rec hrec s9
 refine Le.pc ?_
 intro k
 unfold zcs zqy
 repeat' (try conv => arg 3; simp (maxSteps := 999999) only [sx, ty, ↓reduceIte, seval, *, zyM]); first
  | (refine Le.call (zld _) fun _ _ _ hy => ?_; obtain ⟨_, rfl⟩ := hy)
  | with_reducible refine Le.idx fun _ _ _ _ => ?_
  | with_reducible refine Le.bool (fun _ => ?_) (fun _ => ?_)
  | ((with_reducible refine Le.ret ?_); first | exact rfl | exact Pu.mk)
  | with_reducible refine Le.itq (fun _ => ?_) (fun _ => ?_)
  | exact fun r hr => hrec _ r hr k
theorem zkq (p0 : List Int) : Le (fun r x => Pu (D.bool r) [] x) (zdF p0) (zac T 92 [D.sl false 1 (List.map (D.int .u8) p0), D.fn 93 []] []) := by
 unfold zdF
 refine Le.enter (g := v92) rfl rfl rfl rfl ?_
 repeat' (try conv => arg 3; simp (maxSteps := 999999) only [sx, ty, ↓reduceIte, seval, *, zyM, v92, zyN]); first
  | (refine Le.via (zie _ _ _ _ _) fun t _ _ hy => ?_; rcases t with t | t <;> (try dsimp only [zct] at hy; first | subst hy | obtain ⟨_, rfl⟩ := hy))
  | ((with_reducible refine Le.ret ?_); first | exact rfl | exact Pu.mk)
theorem zeM (p0 : ByteArray) : Le (fun r x => Pu (D.bool r) [] x) (zcJ p0) (zac T 44 [D.str p0] []) := by
 unfold zcJ
 refine Le.enter (g := v44) rfl rfl rfl rfl ?_
 repeat' (try conv => arg 3; simp (maxSteps := 999999) only [sx, ty, ↓reduceIte, seval, *, v44, zxX]); first
  | (refine Le.call (zja _) fun _ _ _ hy => ?_; obtain ⟨_, rfl⟩ := hy)
  | (refine Le.call (zkq _) fun _ _ _ hy => ?_; obtain ⟨_, rfl⟩ := hy)
  | with_reducible refine Le.idxBN fun _ _ _ => ?_
  | with_reducible refine Le.bool (fun _ => ?_) (fun _ => ?_)
  | ((with_reducible refine Le.ret ?_); first | exact rfl | exact Pu.mk)
  | with_reducible refine Le.itq (fun _ => ?_) (fun _ => ?_)
theorem zlF (p0 : Int) (p1 : Int) (p2 : Int) : Le (fun r x => Pu (D.bool r) [] x) (zgV p0 p1 p2) (zac T 138 [D.int .i64 p0, D.int .i64 p1, D.int .i64 p2] []) := by
 unfold zgV
 refine Le.enter (g := v138) rfl rfl rfl rfl ?_
 repeat' (try conv => arg 3; simp (maxSteps := 999999) only [sx, ty, ↓reduceIte, seval, *, v138, zvo]); first
  | ((with_reducible refine Le.ret ?_); first | exact rfl | exact Pu.mk)
  | with_reducible refine Le.itq (fun _ => ?_) (fun _ => ?_)
theorem zle (p0 : Int) : Le (fun r x => Pu (D.bool r) [] x) (zed p0) (zac T 139 [D.int .i64 p0] []) := by
 unfold zed
 refine Le.enter (g := v139) rfl rfl rfl rfl ?_
 repeat' (try conv => arg 3; simp (maxSteps := 999999) only [sx, ty, ↓reduceIte, seval, *, v139, zvp]); first
  | (refine Le.call (zlF _ _ _) fun _ _ _ hy => ?_; obtain ⟨_, rfl⟩ := hy)
  | ((with_reducible refine Le.ret ?_); first | exact rfl | exact Pu.mk)
noncomputable abbrev zfF (s1 : TValue) (s65 : Bool) (k : List Fr) : Option Res := go T (enF [.tmp 2] []) zoF k ⟨[Z, .box [D.int .i64 s1.Kind, D.int .i64 s1.Num, D.str s1.Text, D.int .i64 s1.Ref], Z, Z, Z, Z, Z, Z, Z, Z, Z, Z, Z, Z, Z, Z, Z, Z, Z, Z, Z, Z, Z, Z, Z, Z, Z, Z, Z, Z, Z, Z, Z, Z, Z, Z, Z, Z, Z, Z, Z, Z, Z, Z, Z, Z, Z, Z, Z, Z, Z, Z, Z, Z, Z, Z, Z, Z, Z, Z, Z, Z, Z, Z, Z, .d (D.bool s65), Z, Z, Z, Z, Z, Z, Z, Z, Z, Z, Z, Z, Z, Z], []⟩
noncomputable abbrev zfG (s1 : TValue) (s65 : Bool) (k : List Fr) (t : (Bool ⊕ Bool)) (x : Option Res) : Prop := match t with | .inl t => x = bk T (enF [.tmp 2] []) k ⟨[Z, .box [D.int .i64 s1.Kind, D.int .i64 s1.Num, D.str s1.Text, D.int .i64 s1.Ref], Z, Z, Z, Z, Z, Z, Z, Z, Z, Z, Z, Z, Z, Z, Z, Z, Z, Z, Z, Z, Z, Z, Z, Z, Z, Z, Z, Z, Z, Z, Z, Z, Z, Z, Z, Z, Z, Z, Z, Z, Z, Z, Z, Z, Z, Z, Z, Z, Z, Z, Z, Z, Z, Z, Z, Z, Z, Z, Z, Z, Z, Z, Z, .d (D.bool t), Z, Z, Z, Z, Z, Z, Z, Z, Z, Z, Z, Z, Z, Z], []⟩ | .inr t => Pu (D.bool t) [] x
theorem ziL (s1 : TValue) (s65 : Bool) (k : List Fr) : Le (zfG s1 s65 k) (zcA s1 s65) (zfF s1 s65 k) := by
 unfold zcA zfF zoF
 repeat' (try conv => arg 3; simp (maxSteps := 999999) only [sx, ty, ↓reduceIte, seval, *]); first
  | (refine Le.call (zeM _) fun _ _ _ hy => ?_; obtain ⟨_, rfl⟩ := hy)
  | with_reducible refine Le.bool (fun _ => ?_) (fun _ => ?_)
  | ((with_reducible refine Le.ret ?_); first | exact rfl | exact Pu.mk)
  | with_reducible refine Le.itq (fun _ => ?_) (fun _ => ?_)
noncomputable abbrev zfH (s1 : TValue) (s4 : Int) (s49 : Bool) (k : List Fr) : Option Res := go T (enF [.tmp 2] []) zoG k ⟨[Z, .box [D.int .i64 s1.Kind, D.int .i64 s1.Num, D.str s1.Text, D.int .i64 s1.Ref], Z, Z, .d (D.int .i64 s4), Z, Z, Z, Z, Z, Z, Z, Z, Z, Z, Z, Z, Z, Z, Z, Z, Z, Z, Z, Z, Z, Z, Z, Z, Z, Z, Z, Z, Z, Z, Z, Z, Z, Z, Z, Z, Z, Z, Z, Z, Z, Z, Z, Z, .d (D.bool s49), Z, Z, Z, Z, Z, Z, Z, Z, Z, Z, Z, Z, Z, Z, Z, Z, Z, Z, Z, Z, Z, Z, Z, Z, Z, Z, Z, Z, Z, Z], []⟩
noncomputable abbrev zfI (s1 : TValue) (s4 : Int) (s49 : Bool) (k : List Fr) (t : (Unit ⊕ Bool)) (x : Option Res) : Prop := match t with | .inl t => x = bk T (enF [.tmp 2] []) k ⟨[Z, .box [D.int .i64 s1.Kind, D.int .i64 s1.Num, D.str s1.Text, D.int .i64 s1.Ref], Z, Z, Z, Z, Z, Z, Z, Z, Z, Z, Z, Z, Z, Z, Z, Z, Z, Z, Z, Z, Z, Z, Z, Z, Z, Z, Z, Z, Z, Z, Z, Z, Z, Z, Z, Z, Z, Z, Z, Z, Z, Z, Z, Z, Z, Z, Z, Z, Z, Z, Z, Z, Z, Z, Z, Z, Z, Z, Z, Z, Z, Z, Z, Z, Z, Z, Z, Z, Z, Z, Z, Z, Z, Z, Z, Z, Z, Z], []⟩ | .inr t => Pu (D.bool t) [] x
theorem ziM (s1 : TValue) (s4 : Int) (s49 : Bool) (k : List Fr) : Le (zfI s1 s4 s49 k) (zbX s1 s4 s49) (zfH s1 s4 s49 k) := by
 unfold zbX zfH zoG
 repeat' (try conv => arg 3; simp (maxSteps := 999999) only [sx, ty, ↓reduceIte, seval, *]); first
  | (refine Le.call (zle _) fun _ _ _ hy => ?_; obtain ⟨_, rfl⟩ := hy)
  | (refine Le.via (ziL _ _ _) fun t _ _ hy => ?_; rcases t with t | t <;> (try dsimp only [zfG] at hy; first | subst hy | obtain ⟨_, rfl⟩ := hy))
  | with_reducible refine Le.bool (fun _ => ?_) (fun _ => ?_)
  | ((with_reducible refine Le.ret ?_); first | exact rfl | exact Pu.mk)
  | with_reducible refine Le.itq (fun _ => ?_) (fun _ => ?_)
theorem zlf (p0 : TValue) : Le (fun r x => Pu (D.bool r) [] x) (zee p0) (zac T 110 [D.agg [D.int .i64 p0.Kind, D.int .i64 p0.Num, D.str p0.Text, D.int .i64 p0.Ref]] []) := by
 unfold zee
 refine Le.enter (g := v110) rfl rfl rfl rfl ?_
 repeat' (try conv => arg 3; simp (maxSteps := 999999) only [sx, ty, ↓reduceIte, seval, *, v110, zuV]); first
  | (refine Le.call (zlF _ _ _) fun _ _ _ hy => ?_; obtain ⟨_, rfl⟩ := hy)
  | (refine Le.via (ziM _ _ _ _) fun t _ _ hy => ?_; rcases t with t | t <;> (try dsimp only [zfI] at hy; first | subst hy | obtain ⟨_, rfl⟩ := hy))
  | ((with_reducible refine Le.ret ?_); first | exact rfl | exact Pu.mk)
  | with_reducible refine Le.itq (fun _ => ?_) (fun _ => ?_)
theorem zrl (p0 : ByteArray) : Le (fun r x => Pu (D.agg [D.int .i64 r.Kind, D.int .i64 r.Num, D.str r.Text, D.int .i64 r.Ref]) [] x) (zmz p0) (zac T 154 [D.str p0] []) := by
 unfold zmz
 refine Le.enter (g := v154) rfl rfl rfl rfl ?_
 try conv => arg 3; simp (maxSteps := 999999) only [sx, ty, ↓reduceIte, seval, *, v154, zvt]
 ((with_reducible refine Le.ret ?_); first | exact rfl | exact Pu.mk)
theorem zue : Le (fun r x => Pu (D.agg [D.int .i64 r.Kind, D.int .i64 r.Num, D.str r.Text, D.int .i64 r.Ref]) [] x) (ztb) (zac T 140 [] []) := by
 unfold ztb
 refine Le.enter (g := v140) rfl rfl rfl rfl ?_
 repeat' (try conv => arg 3; simp (maxSteps := 999999) only [sx, ty, ↓reduceIte, seval, *, v140, zvq]); first
  | (refine Le.call (zrl _) fun _ _ _ hy => ?_; obtain ⟨_, rfl⟩ := hy)
  | ((with_reducible refine Le.ret ?_); first | exact rfl | exact Pu.mk)
theorem zrm (p0 : TValue) : Le (fun r x => Pu (D.bool r) [] x) (zjr p0) (zac T 111 [D.agg [D.int .i64 p0.Kind, D.int .i64 p0.Num, D.str p0.Text, D.int .i64 p0.Ref]] []) := by
 unfold zjr
 refine Le.enter (g := v111) rfl rfl rfl rfl ?_
 repeat' (try conv => arg 3; simp (maxSteps := 999999) only [sx, ty, ↓reduceIte, seval, *, v111, zuW]); first
  | (refine Le.dcall (zue) fun _ _ _ hy => ?_; obtain ⟨_, rfl⟩ := hy)
  | ((with_reducible refine Le.ret ?_); first | exact rfl | exact Pu.mk)
theorem zhz (p0 : TBinding) : Le (fun r x => Pu (D.bool r) [] x) (zbs p0) (zac T 75 [D.agg [D.str p0.Name, D.int .i64 p0.Value.Kind, D.int .i64 p0.Value.Num, D.str p0.Value.Text, D.int .i64 p0.Value.Ref]] []) := by
 unfold zbs
 refine Le.enter (g := v75) rfl rfl rfl rfl ?_
 repeat' (try conv => arg 3; simp (maxSteps := 999999) only [sx, ty, ↓reduceIte, seval, *, v75, zyx]); first
  | (refine Le.call (zeM _) fun _ _ _ hy => ?_; obtain ⟨_, rfl⟩ := hy)
  | (refine Le.call (zlf _) fun _ _ _ hy => ?_; obtain ⟨_, rfl⟩ := hy)
  | (refine Le.call (zrm _) fun _ _ _ hy => ?_; obtain ⟨_, rfl⟩ := hy)
  | with_reducible refine Le.bool (fun _ => ?_) (fun _ => ?_)
  | ((with_reducible refine Le.ret ?_); first | exact rfl | exact Pu.mk)
noncomputable abbrev zbH (s0 : List TBinding) (s7 : List TBinding) (s8 : Int) (s9 : Int) (k : List Fr) : Option Res := go T (enF [.tmp 4] []) zqn (.lp zqo :: .bl 0 :: .sq (.clr [4,6,7,8,9,10,11,12,13,14,15,16,17]) :: k) ⟨[.d (D.sl false 5 (List.map (TBinding.e false) s0)), .d (D.fn 75 []), Z, Z, Z, Z, Z, .d (D.sl false 5 (List.map (TBinding.e false) s7)), .d (D.int .i64 s8), .d (D.int .i64 s9), Z, Z, Z, Z, Z, Z, Z, Z], []⟩
noncomputable abbrev zbI (s0 : List TBinding) (s7 : List TBinding) (s8 : Int) (k : List Fr) (t : (Unit ⊕ Bool)) (x : Option Res) : Prop := match t with | .inl t => x = bk T (enF [.tmp 4] []) k ⟨[.d (D.sl false 5 (List.map (TBinding.e false) s0)), .d (D.fn 75 []), Z, Z, Z, Z, Z, Z, Z, Z, Z, Z, Z, Z, Z, Z, Z, Z], []⟩ | .inr t => Pu (D.bool t) [] x
theorem zgF (s0 : List TBinding) (s7 : List TBinding) (s8 : Int) : ∀ (s9 : Int) (k : List Fr), Le (zbI s0 s7 s8 k) (zcg s0 s7 s8 s9) (zbH s0 s7 s8 s9 k) := by
 intro s9 k
 refine Le.cp (X := zbH s0 s7 s8 s9) (Q := zbI s0 s7 s8) ?_ k
 refine zcg.partial_correctness s0 s7 s8 (motive := fun s9 r => ∀ k : List Fr, zbI s0 s7 s8 k r (zbH s0 s7 s8 s9 k)) ?_ s9
 intro rec hrec s9
 refine Le.pc ?_
 intro k
 unfold zbH zqn
 repeat' (try conv => arg 3; simp (maxSteps := 999999) only [sx, ty, ↓reduceIte, seval, *, zyv]); first
  | (refine Le.call (zhz _) fun _ _ _ hy => ?_; obtain ⟨_, rfl⟩ := hy)
  | with_reducible refine Le.idx fun _ _ _ _ => ?_
  | with_reducible refine Le.bool (fun _ => ?_) (fun _ => ?_)
  | ((with_reducible refine Le.ret ?_); first | exact rfl | exact Pu.mk)
  | with_reducible refine Le.itq (fun _ => ?_) (fun _ => ?_)
  | exact fun r hr => hrec _ r hr k
theorem zif (p0 : List TBinding) : Le (fun r x => Pu (D.bool r) [] x) (zco p0) (zac T 74 [D.sl false 5 (List.map (TBinding.e false) p0), D.fn 75 []] []) := by
 unfold zco
 refine Le.enter (g := v74) rfl rfl rfl rfl ?_
 repeat' (try conv => arg 3; simp (maxSteps := 999999) only [sx, ty, ↓reduceIte, seval, *, zyv, v74, zyw]); first
  | (refine Le.via (zgF _ _ _ _ _) fun t _ _ hy => ?_; rcases t with t | t <;> (try dsimp only [zbI] at hy; first | subst hy | obtain ⟨_, rfl⟩ := hy))
  | ((with_reducible refine Le.ret ?_); first | exact rfl | exact Pu.mk)
theorem zdN (sto : List (List D)) : zac T 141 [.nils 1, .int .i64 0] sto = some (.nils 1, [], sto) := by
 rw [zag T (g := v141) rfl rfl rfl _ _ rfl]
 simp (maxSteps := 9999999) (disch := omega) only [vx, px, ty, ↓reduceIte, seval, fx, vxd, Nat.reduceBNe, most, ifT, ifF, v141, zsX, Int.reduceToNat, Int.toNat_zero, zdv.eq_3]
theorem zdO (n : Int) (sto : List (List D)) (h : 0 < n) (h2 : n ≤ 2147483648) : zac T 141 [.nils 1, .int .i64 n] sto = some (.sl true 1 [], [], sto) := by
 rw [zag T (g := v141) rfl rfl rfl _ _ rfl]
 simp (maxSteps := 9999999) (disch := omega) only [vx, px, ty, ↓reduceIte, seval, fx, vxd, Nat.reduceBNe, most, ifT, ifF, v141, zsX, Int.reduceToNat, Int.toNat_zero, zdv.eq_3, zqY, Int.sub_zero]
theorem zel (a b : List ByteArray) (sto : List (List D)) (h : a.length + b.length ≤ 2147483648) : zac T 112 [.sl false 1 [.sl false 1 (a.map D.str), .sl false 1 (b.map D.str)]] sto = some (.sl true 1 ((a ++ b).map D.str), [], sto) := by
 by_cases h0 : a.length + b.length = 0
 ·obtain rfl : a = [] := List.length_eq_zero_iff.1 (by omega)
  obtain rfl : b = [] := List.length_eq_zero_iff.1 (by omega)
  have e0 : ((0 : Nat) : Int) + ((0 : Nat) : Int) = 0 := rfl
  rw [zag T (g := v112) rfl rfl rfl _ _ rfl]
  simp (maxSteps := 9999999) (disch := omega) only [vx, px, ty, ↓reduceIte, seval, fx, vxd, Nat.reduceBNe, most, ifT, ifF, v112, zsU, zuX, zmk, zuY, zml, List.length_map, zdN, Int.reduceToNat, Int.toNat_zero, zdv.eq_3, Int.add_zero, Int.zero_add, Int.reduceAdd, e0]
 ·rw [List.map_append]
  have e1 := fun sto => zdO ((a.length : Int) + (b.length : Int)) sto (by omega) (by omega)
  rw [zag T (g := v112) rfl rfl rfl _ _ rfl]
  simp (maxSteps := 9999999) (disch := omega) only [vx, px, ty, ↓reduceIte, seval, fx, vxd, Nat.reduceBNe, most, ifT, ifF, v112, zsU, zuX, zmk, zuY, zml, List.length_map, e1, Int.reduceToNat, Int.reduceAdd, Int.zero_add, Int.toNat_zero, zdv.eq_3]
theorem zem (a b : List ByteArray) : Le (fun r x => Pu (D.sl true 1 (List.map D.str r)) [] x) (zaP a b) (zac T 112 [D.sl false 1 [D.sl false 1 (List.map D.str a), D.sl false 1 (List.map D.str b)]] []) := by
 unfold zaP
 refine Le.chk fun h => Le.ret ?_
 exact ⟨_, zel a b [] h⟩
noncomputable abbrev zbN (s0 : List ByteArray) (s7 : List ByteArray) (s8 : Int) (s9 : Int) (k : List Fr) : Option Res := go T (enF [.tmp 4] []) zmm (.lp zmn :: .bl 0 :: .sq (.clr [4,6,7,8,9,10,11,12,13,14,15,16,17]) :: k) ⟨[.d (D.sl false 1 (List.map D.str s0)), .d (D.fn 44 []), Z, Z, Z, Z, Z, .d (D.sl false 1 (List.map D.str s7)), .d (D.int .i64 s8), .d (D.int .i64 s9), Z, Z, Z, Z, Z, Z, Z, Z], []⟩
noncomputable abbrev zbO (s0 : List ByteArray) (s7 : List ByteArray) (s8 : Int) (k : List Fr) (t : (Unit ⊕ Bool)) (x : Option Res) : Prop := match t with | .inl t => x = bk T (enF [.tmp 4] []) k ⟨[.d (D.sl false 1 (List.map D.str s0)), .d (D.fn 44 []), Z, Z, Z, Z, Z, Z, Z, Z, Z, Z, Z, Z, Z, Z, Z, Z], []⟩ | .inr t => Pu (D.bool t) [] x
theorem zgY (s0 : List ByteArray) (s7 : List ByteArray) (s8 : Int) : ∀ (s9 : Int) (k : List Fr), Le (zbO s0 s7 s8 k) (zcr s0 s7 s8 s9) (zbN s0 s7 s8 s9 k) := by
 intro s9 k
 refine Le.cp (X := zbN s0 s7 s8 s9) (Q := zbO s0 s7 s8) ?_ k
 refine zcr.partial_correctness s0 s7 s8 (motive := fun s9 r => ∀ k : List Fr, zbO s0 s7 s8 k r (zbN s0 s7 s8 s9 k)) ?_ s9
 intro rec hrec s9
 refine Le.pc ?_
 intro k
 unfold zbN zmm
 repeat' (try conv => arg 3; simp (maxSteps := 999999) only [sx, ty, ↓reduceIte, seval, *, zuZ]); first
  | (refine Le.call (zeM _) fun _ _ _ hy => ?_; obtain ⟨_, rfl⟩ := hy)
  | with_reducible refine Le.idx fun _ _ _ _ => ?_
  | with_reducible refine Le.bool (fun _ => ?_) (fun _ => ?_)
  | ((with_reducible refine Le.ret ?_); first | exact rfl | exact Pu.mk)
  | with_reducible refine Le.itq (fun _ => ?_) (fun _ => ?_)
  | exact fun r hr => hrec _ r hr k
theorem zdT (p0 : List ByteArray) : Le (fun r x => Pu (D.bool r) [] x) (zaG p0) (zac T 113 [D.sl false 1 (List.map D.str p0), D.fn 44 []] []) := by
 unfold zaG
 refine Le.enter (g := v113) rfl rfl rfl rfl ?_
 repeat' (try conv => arg 3; simp (maxSteps := 999999) only [sx, ty, ↓reduceIte, seval, *, zuZ, v113, zva]); first
  | (refine Le.via (zgY _ _ _ _ _) fun t _ _ hy => ?_; rcases t with t | t <;> (try dsimp only [zbO] at hy; first | subst hy | obtain ⟨_, rfl⟩ := hy))
  | ((with_reducible refine Le.ret ?_); first | exact rfl | exact Pu.mk)
theorem zeC (xs : List ByteArray) (h : xs.length ≤ 2147483648) : zac T 81 [.sl false 1 (xs.map D.str)] [] = some (.sl true 1 (xs.map D.str), [], []) := by
 cases xs with
 | nil =>
  rw [zag T (g := v81) rfl rfl rfl _ _ rfl]
  simp (maxSteps := 9999999) (disch := omega) only [vx, px, ty, ↓reduceIte, seval, fx, vxd, Nat.reduceBNe, most, ifT, ifF, v81, zwo]
 | cons x xs =>
  rw [List.length_cons] at h
  rw [zag T (g := v81) rfl rfl rfl _ _ rfl]
  simp (maxSteps := 9999999) (disch := omega) only [vx, px, ty, ↓reduceIte, seval, fx, vxd, Nat.reduceBNe, most, ifT, ifF, v81, zwo]
theorem zaC (p0 : List ByteArray) : Le (fun r x => Pu (D.sl true 1 (List.map D.str r)) [] x) (zad p0) (zac T 81 [D.sl false 1 (List.map D.str p0)] []) := by
 unfold zad
 refine Le.chk fun h => Le.ret ?_
 exact ⟨_, zeC p0 h⟩
theorem zeT (p0 : List ByteArray) : Le (fun r x => Pu (D.tup []) [D.sl true 1 (List.map D.str r)] x) (zaZ p0) (zac T 142 [D.sl true 1 (List.map D.str p0)] []) := by
 unfold zaZ
 refine Le.chk fun h => Le.ret ?_
 exact ⟨_, by rw [zfk (g := zrc) T rfl, zoC p0 h]; rfl⟩
theorem zeh (p0 : List ByteArray) : Le (fun r x => Pu (D.sl true 1 (List.map D.str r)) [] x) (zaJ p0) (zac T 143 [D.sl true 1 (List.map D.str p0)] []) := by
 unfold zaJ
 refine Le.chk fun h => Le.ret ?_
 exact ⟨_, by rw [zfk (g := zgT) T rfl, zkP p0 h]; rfl⟩
theorem zgG (p0 : List ByteArray) : Le (fun r x => Pu (D.sl true 1 (List.map D.str r)) [] x) (zcK p0) (zac T 114 [D.sl true 1 (List.map D.str p0)] []) := by
 unfold zcK
 refine Le.enter (g := v114) rfl rfl rfl rfl ?_
 repeat' (try conv => arg 3; simp (maxSteps := 999999) only [sx, ty, ↓reduceIte, seval, *, v114, zvb]); first
  | (refine Le.call (zeT _) fun _ _ _ hy => ?_; obtain ⟨_, rfl⟩ := hy)
  | (refine Le.call (zeh _) fun _ _ _ hy => ?_; obtain ⟨_, rfl⟩ := hy)
  | ((with_reducible refine Le.ret ?_); first | exact rfl | exact Pu.mk)
noncomputable abbrev zdL (s1 : TFunction) (s3 : List ByteArray) (s4 : Bool) (k : List Fr) : Option Res := go T (enF [.tmp 2] []) zsO k ⟨[Z, .box [D.str s1.Name, D.sl false 1 (List.map D.str s1.Params), D.sl false 1 (List.map D.str s1.Locals), D.str s1.Label], Z, .d (D.sl true 1 (List.map D.str s3)), .d (D.bool s4), Z, Z, Z, Z, Z, Z, Z, Z, Z, Z, Z, Z, Z, Z, Z, Z, Z, Z, Z, Z, Z, Z, Z, Z, Z, Z, Z, Z, Z, Z, Z, Z, Z, Z, Z, Z, Z, Z, Z, Z], []⟩
noncomputable abbrev zfZ (s1 : TFunction) (s3 : List ByteArray) (s4 : Bool) (k : List Fr) (t : Bool) (x : Option Res) : Prop := Pu (D.bool t) [] x
theorem zga (s1 : TFunction) (s3 : List ByteArray) (s4 : Bool) (k : List Fr) : Le (zfZ s1 s3 s4 k) (zbe s1 s3 s4) (zdL s1 s3 s4 k) := by
 unfold zbe zdL zsO
 repeat' (try conv => arg 3; simp (maxSteps := 999999) only [sx, ty, ↓reduceIte, seval, *]); first
  | (refine Le.call (zeM _) fun _ _ _ hy => ?_; obtain ⟨_, rfl⟩ := hy)
  | (refine Le.call (zdT _) fun _ _ _ hy => ?_; obtain ⟨_, rfl⟩ := hy)
  | (refine Le.call (zaC _) fun _ _ _ hy => ?_; obtain ⟨_, rfl⟩ := hy)
  | (refine Le.call (zgG _) fun _ _ _ hy => ?_; obtain ⟨_, rfl⟩ := hy)
  | with_reducible refine Le.bool (fun _ => ?_) (fun _ => ?_)
  | ((with_reducible refine Le.ret ?_); first | exact rfl | exact Pu.mk)
theorem zgZ (p0 : TFunction) : Le (fun r x => Pu (D.bool r) [] x) (zbj p0) (zac T 77 [D.agg [D.str p0.Name, D.sl false 1 (List.map D.str p0.Params), D.sl false 1 (List.map D.str p0.Locals), D.str p0.Label]] []) := by
 unfold zbj
 refine Le.enter (g := v77) rfl rfl rfl rfl ?_
 repeat' (try conv => arg 3; simp (maxSteps := 999999) only [sx, ty, ↓reduceIte, seval, *, v77, zyA]); first
  | (refine Le.call (zem _ _) fun _ _ _ hy => ?_; obtain ⟨_, rfl⟩ := hy)
  | exact zga _ _ _ _
  | ((with_reducible refine Le.ret ?_); first | exact rfl | exact Pu.mk)
  | with_reducible refine Le.itq (fun _ => ?_) (fun _ => ?_)
noncomputable abbrev zbz (s0 : List TFunction) (s7 : List TFunction) (s8 : Int) (s9 : Int) (k : List Fr) : Option Res := go T (enF [.tmp 4] []) zqp (.lp zqq :: .bl 0 :: .sq (.clr [4,6,7,8,9,10,11,12,13,14,15,16,17]) :: k) ⟨[.d (D.sl false 4 (List.map (TFunction.e false) s0)), .d (D.fn 77 []), Z, Z, Z, Z, Z, .d (D.sl false 4 (List.map (TFunction.e false) s7)), .d (D.int .i64 s8), .d (D.int .i64 s9), Z, Z, Z, Z, Z, Z, Z, Z], []⟩
noncomputable abbrev zbA (s0 : List TFunction) (s7 : List TFunction) (s8 : Int) (k : List Fr) (t : (Unit ⊕ Bool)) (x : Option Res) : Prop := match t with | .inl t => x = bk T (enF [.tmp 4] []) k ⟨[.d (D.sl false 4 (List.map (TFunction.e false) s0)), .d (D.fn 77 []), Z, Z, Z, Z, Z, Z, Z, Z, Z, Z, Z, Z, Z, Z, Z, Z], []⟩ | .inr t => Pu (D.bool t) [] x
theorem zgj (s0 : List TFunction) (s7 : List TFunction) (s8 : Int) : ∀ (s9 : Int) (k : List Fr), Le (zbA s0 s7 s8 k) (zbM s0 s7 s8 s9) (zbz s0 s7 s8 s9 k) := by
 intro s9 k
 refine Le.cp (X := zbz s0 s7 s8 s9) (Q := zbA s0 s7 s8) ?_ k
 refine zbM.partial_correctness s0 s7 s8 (motive := fun s9 r => ∀ k : List Fr, zbA s0 s7 s8 k r (zbz s0 s7 s8 s9 k)) ?_ s9
 intro rec hrec s9
 refine Le.pc ?_
 intro k
 unfold zbz zqp
 repeat' (try conv => arg 3; simp (maxSteps := 999999) only [sx, ty, ↓reduceIte, seval, *, zyy]); first
  | (refine Le.call (zgZ _) fun _ _ _ hy => ?_; obtain ⟨_, rfl⟩ := hy)
  | with_reducible refine Le.idx fun _ _ _ _ => ?_
  | with_reducible refine Le.bool (fun _ => ?_) (fun _ => ?_)
  | ((with_reducible refine Le.ret ?_); first | exact rfl | exact Pu.mk)
  | with_reducible refine Le.itq (fun _ => ?_) (fun _ => ?_)
  | exact fun r hr => hrec _ r hr k
theorem zhA (p0 : List TFunction) : Le (fun r x => Pu (D.bool r) [] x) (zbY p0) (zac T 76 [D.sl false 4 (List.map (TFunction.e false) p0), D.fn 77 []] []) := by
 unfold zbY
 refine Le.enter (g := v76) rfl rfl rfl rfl ?_
 repeat' (try conv => arg 3; simp (maxSteps := 999999) only [sx, ty, ↓reduceIte, seval, *, zyy, v76, zyz]); first
  | (refine Le.via (zgj _ _ _ _ _) fun t _ _ hy => ?_; rcases t with t | t <;> (try dsimp only [zbA] at hy; first | subst hy | obtain ⟨_, rfl⟩ := hy))
  | ((with_reducible refine Le.ret ?_); first | exact rfl | exact Pu.mk)
noncomputable abbrev zgi (s0 : List ByteArray) (k : List Fr) : Option Res := go T (enF [.tmp 2] []) zoJ k ⟨[.d (D.sl false 1 (List.map D.str s0)), Z, Z, Z, Z, Z, Z, Z, Z, Z, Z, Z, Z, Z, Z, Z, Z, Z, Z, Z, Z, Z, Z], []⟩
noncomputable abbrev zjg (s0 : List ByteArray) (k : List Fr) (t : Bool) (x : Option Res) : Prop := Pu (D.bool t) [] x
theorem zjh (s0 : List ByteArray) (k : List Fr) : Le (zjg s0 k) (zdX s0) (zgi s0 k) := by
 unfold zdX zgi zoJ
 repeat' (try conv => arg 3; simp (maxSteps := 999999) only [sx, ty, ↓reduceIte, seval, *]); first
  | (refine Le.call (zaC _) fun _ _ _ hy => ?_; obtain ⟨_, rfl⟩ := hy)
  | (refine Le.call (zgG _) fun _ _ _ hy => ?_; obtain ⟨_, rfl⟩ := hy)
  | ((with_reducible refine Le.ret ?_); first | exact rfl | exact Pu.mk)
theorem zmC (p0 : List ByteArray) : Le (fun r x => Pu (D.bool r) [] x) (zfW p0) (zac T 115 [D.sl false 1 (List.map D.str p0)] []) := by
 unfold zfW
 refine Le.enter (g := v115) rfl rfl rfl rfl ?_
 repeat' (try conv => arg 3; simp (maxSteps := 999999) only [sx, ty, ↓reduceIte, seval, *, v115, zvc]); first
  | (refine Le.call (zdT _) fun _ _ _ hy => ?_; obtain ⟨_, rfl⟩ := hy)
  | exact zjh _ _
  | ((with_reducible refine Le.ret ?_); first | exact rfl | exact Pu.mk)
  | with_reducible refine Le.bool (fun _ => ?_) (fun _ => ?_)
  | with_reducible refine Le.itq (fun _ => ?_) (fun _ => ?_)
theorem zdP (p0 : TRecordType) : Le (fun r x => Pu (D.bool r) [] x) (zaF p0) (zac T 79 [D.agg [D.str p0.Name, D.sl false 1 (List.map D.str p0.Fields)]] []) := by
 unfold zaF
 refine Le.enter (g := v79) rfl rfl rfl rfl ?_
 repeat' (try conv => arg 3; simp (maxSteps := 999999) only [sx, ty, ↓reduceIte, seval, *, v79, zyD]); first
  | (refine Le.call (zeM _) fun _ _ _ hy => ?_; obtain ⟨_, rfl⟩ := hy)
  | (refine Le.call (zmC _) fun _ _ _ hy => ?_; obtain ⟨_, rfl⟩ := hy)
  | with_reducible refine Le.bool (fun _ => ?_) (fun _ => ?_)
  | ((with_reducible refine Le.ret ?_); first | exact rfl | exact Pu.mk)
noncomputable abbrev zbn (s0 : List TRecordType) (s7 : List TRecordType) (s8 : Int) (s9 : Int) (k : List Fr) : Option Res := go T (enF [.tmp 4] []) zqr (.lp zqs :: .bl 0 :: .sq (.clr [4,6,7,8,9,10,11,12,13,14,15,16,17]) :: k) ⟨[.d (D.sl false 2 (List.map (TRecordType.e false) s0)), .d (D.fn 79 []), Z, Z, Z, Z, Z, .d (D.sl false 2 (List.map (TRecordType.e false) s7)), .d (D.int .i64 s8), .d (D.int .i64 s9), Z, Z, Z, Z, Z, Z, Z, Z], []⟩
noncomputable abbrev zbo (s0 : List TRecordType) (s7 : List TRecordType) (s8 : Int) (k : List Fr) (t : (Unit ⊕ Bool)) (x : Option Res) : Prop := match t with | .inl t => x = bk T (enF [.tmp 4] []) k ⟨[.d (D.sl false 2 (List.map (TRecordType.e false) s0)), .d (D.fn 79 []), Z, Z, Z, Z, Z, Z, Z, Z, Z, Z, Z, Z, Z, Z, Z, Z], []⟩ | .inr t => Pu (D.bool t) [] x
theorem zfJ (s0 : List TRecordType) (s7 : List TRecordType) (s8 : Int) : ∀ (s9 : Int) (k : List Fr), Le (zbo s0 s7 s8 k) (zby s0 s7 s8 s9) (zbn s0 s7 s8 s9 k) := by
 intro s9 k
 refine Le.cp (X := zbn s0 s7 s8 s9) (Q := zbo s0 s7 s8) ?_ k
 refine zby.partial_correctness s0 s7 s8 (motive := fun s9 r => ∀ k : List Fr, zbo s0 s7 s8 k r (zbn s0 s7 s8 s9 k)) ?_ s9
 intro rec hrec s9
 refine Le.pc ?_
 intro k
 unfold zbn zqr
 repeat' (try conv => arg 3; simp (maxSteps := 999999) only [sx, ty, ↓reduceIte, seval, *, zyB]); first
  | (refine Le.call (zdP _) fun _ _ _ hy => ?_; obtain ⟨_, rfl⟩ := hy)
  | with_reducible refine Le.idx fun _ _ _ _ => ?_
  | with_reducible refine Le.bool (fun _ => ?_) (fun _ => ?_)
  | ((with_reducible refine Le.ret ?_); first | exact rfl | exact Pu.mk)
  | with_reducible refine Le.itq (fun _ => ?_) (fun _ => ?_)
  | exact fun r hr => hrec _ r hr k
theorem zgH (p0 : List TRecordType) : Le (fun r x => Pu (D.bool r) [] x) (zbw p0) (zac T 78 [D.sl false 2 (List.map (TRecordType.e false) p0), D.fn 79 []] []) := by
 unfold zbw
 refine Le.enter (g := v78) rfl rfl rfl rfl ?_
 repeat' (try conv => arg 3; simp (maxSteps := 999999) only [sx, ty, ↓reduceIte, seval, *, zyB, v78, zyC]); first
  | (refine Le.via (zfJ _ _ _ _ _) fun t _ _ hy => ?_; rcases t with t | t <;> (try dsimp only [zbo] at hy; first | subst hy | obtain ⟨_, rfl⟩ := hy))
  | ((with_reducible refine Le.ret ?_); first | exact rfl | exact Pu.mk)
noncomputable abbrev zfK (s1 : TScope) (s3 : Bool) (k : List Fr) : Option Res := go T (enF [.tmp 2] []) zsG k ⟨[Z, .box [D.sl false 5 (List.map (TBinding.e false) s1.Vars), D.sl false 4 (List.map (TFunction.e false) s1.Functions), D.sl false 2 (List.map (TRecordType.e false) s1.Types)], Z, .d (D.bool s3), Z, Z, Z, Z, Z, Z, Z, Z, Z, Z, Z, Z, Z, Z, Z, Z, Z, Z, Z, Z, Z, Z, Z, Z, Z, Z, Z, Z, Z, Z, Z, Z, Z, Z, Z, Z, Z, Z, Z, Z, Z, Z, Z, Z, Z], []⟩
noncomputable abbrev zfL (s1 : TScope) (s3 : Bool) (k : List Fr) (t : Bool) (x : Option Res) : Prop := Pu (D.bool t) [] x
theorem ziN (s1 : TScope) (s3 : Bool) (k : List Fr) : Le (zfL s1 s3 k) (zbZ s1 s3) (zfK s1 s3 k) := by
 unfold zbZ zfK zsG
 repeat' (try conv => arg 3; simp (maxSteps := 999999) only [sx, ty, ↓reduceIte, seval, *]); first
  | (refine Le.call (zif _) fun _ _ _ hy => ?_; obtain ⟨_, rfl⟩ := hy)
  | (refine Le.call (zhA _) fun _ _ _ hy => ?_; obtain ⟨_, rfl⟩ := hy)
  | (refine Le.call (zgH _) fun _ _ _ hy => ?_; obtain ⟨_, rfl⟩ := hy)
  | with_reducible refine Le.bool (fun _ => ?_) (fun _ => ?_)
  | ((with_reducible refine Le.ret ?_); first | exact rfl | exact Pu.mk)
noncomputable abbrev zfM (s1 : TScope) (k : List Fr) : Option Res := go T (enF [.tmp 2] []) zsH k ⟨[Z, .box [D.sl false 5 (List.map (TBinding.e false) s1.Vars), D.sl false 4 (List.map (TFunction.e false) s1.Functions), D.sl false 2 (List.map (TRecordType.e false) s1.Types)], Z, Z, Z, Z, Z, Z, Z, Z, Z, Z, Z, Z, Z, Z, Z, Z, Z, Z, Z, Z, Z, Z, Z, Z, Z, Z, Z, Z, Z, Z, Z, Z, Z, Z, Z, Z, Z, Z, Z, Z, Z, Z, Z, Z, Z, Z, Z], []⟩
noncomputable abbrev ziO (s1 : TScope) (k : List Fr) (t : Bool) (x : Option Res) : Prop := Pu (D.bool t) [] x
theorem ziP (s1 : TScope) (k : List Fr) : Le (ziO s1 k) (zdG s1) (zfM s1 k) := by
 unfold zdG zfM zsH
 repeat' (try conv => arg 3; simp (maxSteps := 999999) only [sx, ty, ↓reduceIte, seval, *]); first
  | (refine Le.call (zgX _) fun _ _ _ hy => ?_; obtain ⟨_, rfl⟩ := hy)
  | (refine Le.call (zgE _) fun _ _ _ hy => ?_; obtain ⟨_, rfl⟩ := hy)
  | (refine Le.call (zfY _) fun _ _ _ hy => ?_; obtain ⟨_, rfl⟩ := hy)
  | (refine Le.via (ziN _ _ _) fun _ _ _ hy => ?_; try dsimp only [zfL] at hy; first | subst hy | obtain ⟨_, rfl⟩ := hy)
  | with_reducible refine Le.bool (fun _ => ?_) (fun _ => ?_)
  | ((with_reducible refine Le.ret ?_); first | exact rfl | exact Pu.mk)
theorem zlg (p0 : TScope) : Le (fun r x => Pu (D.bool r) [] x) (zef p0) (zac T 30 [D.agg [D.sl false 5 (List.map (TBinding.e false) p0.Vars), D.sl false 4 (List.map (TFunction.e false) p0.Functions), D.sl false 2 (List.map (TRecordType.e false) p0.Types)]] []) := by
 unfold zef
 refine Le.enter (g := v30) rfl rfl rfl rfl ?_
 repeat' (try conv => arg 3; simp (maxSteps := 999999) only [sx, ty, ↓reduceIte, seval, *, v30, zxJ]); first
  | exact ziP _ _
  | ((with_reducible refine Le.ret ?_); first | exact rfl | exact Pu.mk)
  | with_reducible refine Le.itq (fun _ => ?_) (fun _ => ?_)
theorem zei (xs : List TBinding) (h : xs.length ≤ 2147483648) : zac T 80 [.sl false 5 (xs.map (TBinding.e false))] [] = some (.sl true 5 (xs.map (TBinding.e false)), [], []) := by
 cases xs with
 | nil =>
  rw [zag T (g := v80) rfl rfl rfl _ _ rfl]
  simp (maxSteps := 9999999) (disch := omega) only [vx, px, ty, ↓reduceIte, seval, fx, vxd, Nat.reduceBNe, most, ifT, ifF, v80, zwn]
 | cons x xs =>
  rw [List.length_cons] at h
  rw [zag T (g := v80) rfl rfl rfl _ _ rfl]
  simp (maxSteps := 9999999) (disch := omega) only [vx, px, ty, ↓reduceIte, seval, fx, vxd, Nat.reduceBNe, most, ifT, ifF, v80, zwn]
theorem zej (p0 : List TBinding) : Le (fun r x => Pu (D.sl true 5 (List.map (TBinding.e false) r)) [] x) (zaK p0) (zac T 80 [D.sl false 5 (List.map (TBinding.e false) p0)] []) := by
 unfold zaK
 refine Le.chk fun h => Le.ret ?_
 exact ⟨_, zei p0 h⟩
noncomputable abbrev zcj (s1 : TScope) (s2 : TScope) (s13 : List TFunction) (s14 : Int) (s3 : TScope) (s15 : Int) (k : List Fr) : Option Res := go T (enF [.cell 2 (.many 3)] []) zpQ (.lp zpR :: .bl 0 :: .sq (.clr [0,5,8,9,10,11,12,13,14,15,16,17,18,19,20,21,22,23,24,25,26,27,28,29,30,31,32,33]) :: k) ⟨[Z, .box [D.sl false 5 (List.map (TBinding.e false) s1.Vars), D.sl false 4 (List.map (TFunction.e false) s1.Functions), D.sl false 2 (List.map (TRecordType.e false) s1.Types)], .box [D.sl true 5 (List.map (TBinding.e false) s2.Vars), D.sl true 4 (List.map (TFunction.e true) s2.Functions), D.sl true 2 (List.map (TRecordType.e true) s2.Types)], .box [D.sl true 5 (List.map (TBinding.e false) s3.Vars), D.sl true 4 (List.map (TFunction.e true) s3.Functions), D.sl true 2 (List.map (TRecordType.e true) s3.Types)], Z, Z, Z, Z, Z, Z, Z, Z, .ptr ⟨.slot 1, [], 1⟩, .d (D.sl false 4 (List.map (TFunction.e false) s13)), .d (D.int .i64 s14), .d (D.int .i64 s15), Z, Z, Z, Z, Z, Z, Z, Z, Z, Z, Z, Z, Z, Z, Z, Z, Z, Z, Z, Z, Z, Z, Z, Z, Z, Z, Z, Z, Z, Z, Z, Z, Z, Z, Z, Z, Z], []⟩
noncomputable abbrev zck (s1 : TScope) (s2 : TScope) (s13 : List TFunction) (s14 : Int) (k : List Fr) (t : TScope) (x : Option Res) : Prop := x = bk T (enF [.cell 2 (.many 3)] []) k ⟨[Z, .box [D.sl false 5 (List.map (TBinding.e false) s1.Vars), D.sl false 4 (List.map (TFunction.e false) s1.Functions), D.sl false 2 (List.map (TRecordType.e false) s1.Types)], .box [D.sl true 5 (List.map (TBinding.e false) s2.Vars), D.sl true 4 (List.map (TFunction.e true) s2.Functions), D.sl true 2 (List.map (TRecordType.e true) s2.Types)], .box [D.sl true 5 (List.map (TBinding.e false) t.Vars), D.sl true 4 (List.map (TFunction.e true) t.Functions), D.sl true 2 (List.map (TRecordType.e true) t.Types)], Z, Z, Z, Z, Z, Z, Z, Z, Z, Z, Z, Z, Z, Z, Z, Z, Z, Z, Z, Z, Z, Z, Z, Z, Z, Z, Z, Z, Z, Z, Z, Z, Z, Z, Z, Z, Z, Z, Z, Z, Z, Z, Z, Z, Z, Z, Z, Z, Z], []⟩
theorem zhB (s1 : TScope) (s2 : TScope) (s13 : List TFunction) (s14 : Int) : ∀ (s3 : TScope) (s15 : Int) (k : List Fr), Le (zck s1 s2 s13 s14 k) (zca s1 s2 s13 s14 s3 s15) (zcj s1 s2 s13 s14 s3 s15 k) := by
 intro s3 s15 k
 refine Le.cp (X := zcj s1 s2 s13 s14 s3 s15) (Q := zck s1 s2 s13 s14) ?_ k
 refine zca.partial_correctness s1 s2 s13 s14 (motive := fun s3 s15 r => ∀ k : List Fr, zck s1 s2 s13 s14 k r (zcj s1 s2 s13 s14 s3 s15 k)) ?_ s3 s15
 intro rec hrec s3 s15
 refine Le.pc ?_
 intro k
 unfold zcj zpQ
 try conv => arg 3; simp (maxSteps := 999999) only [sx, ty, ↓reduceIte, seval, *, zhT, zhU]
 refine Le.itq (fun h => ?_) (fun h => ?_)
 ·try conv => arg 3; simp (maxSteps := 999999) only [sx, ty, ↓reduceIte, seval, *, zhT, zhU]
  refine Le.idx fun a17 h_1 h_2 h_3 => ?_
  try conv => arg 3; simp (maxSteps := 999999) only [sx, ty, ↓reduceIte, seval, *, zhT, zhU]
  refine Le.dcall (zaC a17.Params) fun r21 h_4 _ hy => ?_
  obtain ⟨_, rfl⟩ := hy
  try conv => arg 3; simp (maxSteps := 999999) only [sx, ty, ↓reduceIte, seval, *, zhT, zhU]
  refine Le.dcall (zaC a17.Locals) fun r24 h_5 _ hy => ?_
  obtain ⟨_, rfl⟩ := hy
  try conv => arg 3; simp (maxSteps := 999999) only [sx, ty, ↓reduceIte, seval, *, zhT, zhU]
  refine Le.app fun c31 h_6 h_7 => ?_
  replace h_6 : List.map (TFunction.e true) s3.Functions ++ [D.agg [D.str a17.Name, D.sl true 1 (List.map D.str r21), D.sl true 1 (List.map D.str r24), D.str a17.Label]] = List.map (TFunction.e true) c31 := by rw [h_6, List.map_append] <;> rfl
  replace h_7 : s3.Functions.length + 1 ≤ most := h_7
  try conv => arg 3; simp (maxSteps := 999999) only [sx, ty, ↓reduceIte, seval, *, zhT, zhU]
  exact fun r hr => hrec _ _ r hr k
 ·try conv => arg 3; simp (maxSteps := 999999) only [sx, ty, ↓reduceIte, seval, *, zhT, zhU]
  ((with_reducible refine Le.ret ?_); first | exact rfl | exact Pu.mk)
noncomputable abbrev zcl (s1 : TScope) (s2 : TScope) (s35 : List TRecordType) (s36 : Int) (s3 : TScope) (s37 : Int) (k : List Fr) : Option Res := go T (enF [.cell 2 (.many 3)] []) zpS (.lp zpT :: .bl 2 :: .sq (.clr [0,1,5,7,8,9,10,11,12,13,14,15,16,17,18,19,20,21,22,23,24,25,26,27,28,29,30,31,32,33,34,35,36,37,38,39,40,41,42,43,44,45,46,47,48,49,50,51]) :: k) ⟨[Z, .box [D.sl false 5 (List.map (TBinding.e false) s1.Vars), D.sl false 4 (List.map (TFunction.e false) s1.Functions), D.sl false 2 (List.map (TRecordType.e false) s1.Types)], .box [D.sl true 5 (List.map (TBinding.e false) s2.Vars), D.sl true 4 (List.map (TFunction.e true) s2.Functions), D.sl true 2 (List.map (TRecordType.e true) s2.Types)], .box [D.sl true 5 (List.map (TBinding.e false) s3.Vars), D.sl true 4 (List.map (TFunction.e true) s3.Functions), D.sl true 2 (List.map (TRecordType.e true) s3.Types)], Z, Z, Z, Z, Z, Z, Z, Z, Z, Z, Z, Z, Z, Z, Z, Z, Z, Z, Z, Z, Z, Z, Z, Z, Z, Z, Z, Z, Z, Z, .ptr ⟨.slot 1, [], 2⟩, .d (D.sl false 2 (List.map (TRecordType.e false) s35)), .d (D.int .i64 s36), .d (D.int .i64 s37), Z, Z, Z, Z, Z, Z, Z, Z, Z, Z, Z, Z, Z, Z, Z], []⟩
noncomputable abbrev zcm (s1 : TScope) (s2 : TScope) (s35 : List TRecordType) (s36 : Int) (k : List Fr) (t : TScope) (x : Option Res) : Prop := x = bk T (enF [.cell 2 (.many 3)] []) k ⟨[Z, Z, .box [D.sl true 5 (List.map (TBinding.e false) s2.Vars), D.sl true 4 (List.map (TFunction.e true) s2.Functions), D.sl true 2 (List.map (TRecordType.e true) s2.Types)], .box [D.sl true 5 (List.map (TBinding.e false) t.Vars), D.sl true 4 (List.map (TFunction.e true) t.Functions), D.sl true 2 (List.map (TRecordType.e true) t.Types)], Z, Z, Z, Z, Z, Z, Z, Z, Z, Z, Z, Z, Z, Z, Z, Z, Z, Z, Z, Z, Z, Z, Z, Z, Z, Z, Z, Z, Z, Z, Z, Z, Z, Z, Z, Z, Z, Z, Z, Z, Z, Z, Z, Z, Z, Z, Z, Z, Z], []⟩
theorem zhC (s1 : TScope) (s2 : TScope) (s35 : List TRecordType) (s36 : Int) : ∀ (s3 : TScope) (s37 : Int) (k : List Fr), Le (zcm s1 s2 s35 s36 k) (zcb s1 s2 s35 s36 s3 s37) (zcl s1 s2 s35 s36 s3 s37 k) := by
 intro s3 s37 k
 refine Le.cp (X := zcl s1 s2 s35 s36 s3 s37) (Q := zcm s1 s2 s35 s36) ?_ k
 refine zcb.partial_correctness s1 s2 s35 s36 (motive := fun s3 s37 r => ∀ k : List Fr, zcm s1 s2 s35 s36 k r (zcl s1 s2 s35 s36 s3 s37 k)) ?_ s3 s37
 intro rec hrec s3 s37
 refine Le.pc ?_
 intro k
 unfold zcl zpS
 try conv => arg 3; simp (maxSteps := 999999) only [sx, ty, ↓reduceIte, seval, *, zhT, zhU]
 refine Le.itq (fun h => ?_) (fun h => ?_)
 ·try conv => arg 3; simp (maxSteps := 999999) only [sx, ty, ↓reduceIte, seval, *, zhT, zhU]
  refine Le.idx fun a39 h_1 h_2 h_3 => ?_
  try conv => arg 3; simp (maxSteps := 999999) only [sx, ty, ↓reduceIte, seval, *, zhT, zhU]
  refine Le.call (zaC a39.Fields) fun r43 h_4 _ hy => ?_
  obtain ⟨_, rfl⟩ := hy
  try conv => arg 3; simp (maxSteps := 999999) only [sx, ty, ↓reduceIte, seval, *, zhT, zhU]
  refine Le.app fun c49 h_5 h_6 => ?_
  replace h_5 : List.map (TRecordType.e true) s3.Types ++ [D.agg [D.str a39.Name, D.sl true 1 (List.map D.str r43)]] = List.map (TRecordType.e true) c49 := by rw [h_5, List.map_append] <;> rfl
  replace h_6 : s3.Types.length + 1 ≤ most := h_6
  try conv => arg 3; simp (maxSteps := 999999) only [sx, ty, ↓reduceIte, seval, *, zhT, zhU]
  exact fun r hr => hrec _ _ r hr k
 ·try conv => arg 3; simp (maxSteps := 999999) only [sx, ty, ↓reduceIte, seval, *, zhT, zhU]
  ((with_reducible refine Le.ret ?_); first | exact rfl | exact Pu.mk)
theorem zji (p0 : TScope) : Le (fun r x => Pu (D.agg [D.sl true 5 (List.map (TBinding.e false) r.Vars), D.sl true 4 (List.map (TFunction.e true) r.Functions), D.sl true 2 (List.map (TRecordType.e true) r.Types)]) [] x) (zdj p0) (zac T 31 [D.agg [D.sl false 5 (List.map (TBinding.e false) p0.Vars), D.sl false 4 (List.map (TFunction.e false) p0.Functions), D.sl false 2 (List.map (TRecordType.e false) p0.Types)]] []) := by
 unfold zdj
 refine Le.enter (g := v31) rfl rfl rfl rfl ?_
 repeat' (try conv => arg 3; simp (maxSteps := 999999) only [sx, ty, ↓reduceIte, seval, *, zhT, zhU, v31, zxK]); first
  | (refine Le.call (zej _) fun _ _ _ hy => ?_; obtain ⟨_, rfl⟩ := hy)
  | (refine Le.via (zhB _ _ _ _ _ _ _) fun _ _ _ hy => ?_; try dsimp only [zck] at hy; first | subst hy | obtain ⟨_, rfl⟩ := hy)
  | (refine Le.via (zhC _ _ _ _ _ _ _) fun _ _ _ hy => ?_; try dsimp only [zcm] at hy; first | subst hy | obtain ⟨_, rfl⟩ := hy)
  | ((with_reducible refine Le.ret ?_); first | exact rfl | exact Pu.mk)
theorem zeD (s p : ByteArray) : Le (fun r x => Pu (D.int .i64 r) [] x) (zaQ s p) (zac T 157 [D.str s, D.str p] []) := by
 unfold zaQ
 intro r hr
 exact ⟨_, by rw [zfk (g := ziY) T rfl, znp hr]; rfl⟩
theorem zeV (p0 : ByteArray) (p1 : ByteArray) : Le (fun r x => Pu (D.tup [D.str r.1, D.str r.2.1, D.bool r.2.2]) [] x) (zbk p0 p1) (zac T 144 [D.str p0, D.str p1] []) := by
 unfold zbk
 refine Le.enter (g := v144) rfl rfl rfl rfl ?_
 repeat' (try conv => arg 3; simp (maxSteps := 999999) only [sx, ty, ↓reduceIte, seval, *, v144, zvr]); first
  | (refine Le.call (zeD _ _) fun _ _ _ hy => ?_; obtain ⟨_, rfl⟩ := hy)
  | with_reducible refine Le.subBH fun _ _ _ _ => ?_
  | with_reducible refine Le.subBL fun _ _ _ _ => ?_
  | ((with_reducible refine Le.ret ?_); first | exact rfl | exact Pu.mk)
  | with_reducible refine Le.itq (fun _ => ?_) (fun _ => ?_)
theorem zmD (p0 : ByteArray) (p1 : ByteArray) : Le (fun r x => Pu (D.tup [D.str r.1, D.str r.2.1, D.bool r.2.2]) [] x) (zdS p0 p1) (zac T 116 [D.str p0, D.str p1] []) := by
 unfold zdS
 refine Le.enter (g := v116) rfl rfl rfl rfl ?_
 repeat' (try conv => arg 3; simp (maxSteps := 999999) only [sx, ty, ↓reduceIte, seval, *, v116, zvd]); first
  | (refine Le.call (zeV _ _) fun _ _ _ hy => ?_; obtain ⟨_, rfl⟩ := hy)
  | ((with_reducible refine Le.ret ?_); first | exact rfl | exact Pu.mk)
end Go.Vx.DtZ
