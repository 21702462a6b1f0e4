/-
  What the plain functions give, the program gives too.
-/
import Derived.Test.YthppbplieikhkaaGreatDoorCode
import Derived.Test.YthppbplieikhkaaGreatDoorDef
set_option linter.unusedVariables false
set_option linter.unusedSimpArgs false
namespace Go.Vx.DfZ
set_option linter.unusedVariables false
set_option linter.unusedSimpArgs false
set_option maxRecDepth 10000
set_option maxHeartbeats 2000000
theorem ziw (p0 : Int) : Le (fun r x => Pu (D.bool r) [] x) (zdX p0) (zab T 122 [D.int .u8 p0] []) := by
 unfold zdX
 refine Le.enter (g := v122) rfl rfl rfl rfl ?_
 repeat' (try conv => arg 3; simp (maxSteps := 999999) only [sx, ty, ↓reduceIte, seval, *, v122, zvI]); first
  | ((with_reducible refine Le.ret ?_); first | exact rfl | exact Pu.mk)
  | with_reducible refine Le.itq (fun _ => ?_) (fun _ => ?_)
theorem zol (p0 : Int) : Le (fun r x => Pu (D.bool r) [] x) (zfG p0) (zab T 123 [D.int .u8 p0] []) := by
 unfold zfG
 refine Le.enter (g := v123) rfl rfl rfl rfl ?_
 repeat' (try conv => arg 3; simp (maxSteps := 999999) only [sx, ty, ↓reduceIte, seval, *, v123, zvJ]); first
  | ((with_reducible refine Le.ret ?_); first | exact rfl | exact Pu.mk)
  | with_reducible refine Le.itq (fun _ => ?_) (fun _ => ?_)
noncomputable abbrev zcT (s0 : ByteArray) (s1 : Int) (k : List Fr) : Option Res := go T (enF [.tmp 4] []) zqP (.lp zqQ :: .bl 0 :: .sq (.clr [4,5,6,7,8,9,10,11,12,13,14,15,16,17,18,19,20,21,22,23,24,25,26,27,28,29,30,31,32,33,34,35,36,37,38,39,40]) :: k) ⟨[.d (D.str s0), .d (D.int .i64 s1), Z, Z, Z, Z, Z, Z, Z, Z, Z, Z, Z, Z, Z, Z, Z, Z, Z, Z, Z, Z, Z, Z, Z, Z, Z, Z, Z, Z, Z, Z, Z, Z, Z, Z, Z, Z, Z, Z, Z, Z], []⟩
noncomputable abbrev zcU (s0 : ByteArray) (k : List Fr) (t : Int) (x : Option Res) : Prop := x = bk T (enF [.tmp 4] []) k ⟨[.d (D.str s0), .d (D.int .i64 t), Z, Z, Z, Z, Z, Z, Z, Z, Z, Z, Z, Z, Z, Z, Z, Z, Z, Z, Z, Z, Z, Z, Z, Z, Z, Z, Z, Z, Z, Z, Z, Z, Z, Z, Z, Z, Z, Z, Z, Z], []⟩
theorem ziT (s0 : ByteArray) : ∀ (s1 : Int) (k : List Fr), Le (zcU s0 k) (zbh s0 s1) (zcT s0 s1 k) := by
 intro s1 k
 refine Le.cp (X := zcT s0 s1) (Q := zcU s0) ?_ k
 refine zbh.partial_correctness s0 (motive := fun s1 r => ∀ k : List Fr, zcU s0 k r (zcT s0 s1 k)) ?_ s1
 intro rec hrec s1
 refine Le.pc ?_
 intro k
 unfold zcT zqP
 repeat' (try conv => arg 3; simp (maxSteps := 999999) only [sx, ty, ↓reduceIte, seval, *, zwQ]); first
  | (refine Le.call (ziw _) fun _ _ _ hy => ?_; obtain ⟨_, rfl⟩ := hy)
  | (refine Le.call (zol _) fun _ _ _ hy => ?_; obtain ⟨_, rfl⟩ := hy)
  | with_reducible refine Le.idxB fun _ _ _ _ => ?_
  | with_reducible refine Le.bool (fun _ => ?_) (fun _ => ?_)
  | ((with_reducible refine Le.ret ?_); first | exact rfl | exact Pu.mk)
  | with_reducible refine Le.itq (fun _ => ?_) (fun _ => ?_)
  | exact fun r hr => hrec _ r hr k
noncomputable abbrev zfI (s0 : ByteArray) (s1 : Int) (k : List Fr) : Option Res := go T (enF [.tmp 4] []) ztq k ⟨[.d (D.str s0), .d (D.int .i64 s1), Z, Z, Z, Z, Z, Z, Z, Z, Z, Z, Z, Z, Z, Z, Z, Z, Z, Z, Z, Z, Z, Z, Z, Z, Z, Z, Z, Z, Z, Z, Z, Z, Z, Z, Z, Z, Z, Z, Z, Z], []⟩
noncomputable abbrev ziU (s0 : ByteArray) (s1 : Int) (k : List Fr) (t : Int) (x : Option Res) : Prop := Pu (D.int .i64 t) [] x
theorem ziV (s0 : ByteArray) (s1 : Int) (k : List Fr) : Le (ziU s0 s1 k) (zdH s0 s1) (zfI s0 s1 k) := by
 unfold zdH zfI ztq
 repeat' (try conv => arg 3; simp (maxSteps := 999999) only [sx, ty, ↓reduceIte, seval, *, zwQ]); first
  | (refine Le.via (ziT _ _ _) fun _ _ _ hy => ?_; try dsimp only [zcU] at hy; first | subst hy | obtain ⟨_, rfl⟩ := hy)
  | ((with_reducible refine Le.ret ?_); first | exact rfl | exact Pu.mk)
theorem zls (p0 : ByteArray) (p1 : Int) : Le (fun r x => Pu (D.int .i64 r) [] x) (zfp p0 p1) (zab T 90 [D.str p0, D.int .i64 p1] []) := by
 unfold zfp
 refine Le.enter (g := v90) rfl rfl rfl rfl ?_
 repeat' (try conv => arg 3; simp (maxSteps := 999999) only [sx, ty, ↓reduceIte, seval, *, zwQ, v90, zzj]); first
  | (refine Le.call (ziw _) fun _ _ _ hy => ?_; obtain ⟨_, rfl⟩ := hy)
  | exact ziV _ _ _
  | ((with_reducible refine Le.ret ?_); first | exact rfl | exact Pu.mk)
  | with_reducible refine Le.idxB fun _ _ _ _ => ?_
  | with_reducible refine Le.bool (fun _ => ?_) (fun _ => ?_)
  | with_reducible refine Le.itq (fun _ => ?_) (fun _ => ?_)
theorem zeZ (p0 : ByteArray) : Le (fun r x => Pu (D.bool r) [] x) (zdI p0) (zab T 42 [D.str p0] []) := by
 unfold zdI
 refine Le.enter (g := v42) rfl rfl rfl rfl ?_
 repeat' (try conv => arg 3; simp (maxSteps := 999999) only [sx, ty, ↓reduceIte, seval, *, v42, zyt]); first
  | (refine Le.call (zls _ _) fun _ _ _ hy => ?_; obtain ⟨_, rfl⟩ := hy)
  | ((with_reducible refine Le.ret ?_); first | exact rfl | exact Pu.mk)
  | with_reducible refine Le.itq (fun _ => ?_) (fun _ => ?_)
theorem zgK (p0 : TValue) (p1 : Bool) (p2 : Bool) (p3 : Bool) : Le (fun r x => Pu (D.bool r) [] x) (zcN p0 p1 p2 p3) (zab T 103 [D.agg [D.int .i64 p0.Kind, D.int .i64 p0.Num, D.str p0.Text, D.int .i64 p0.Ref], D.bool p1, D.bool p2, D.bool p3] []) := by
 unfold zcN
 refine Le.enter (g := v103) rfl rfl rfl rfl ?_
 repeat' (try conv => arg 3; simp (maxSteps := 999999) only [sx, ty, ↓reduceIte, seval, *, v103, zvp]); first
  | with_reducible refine Le.bool (fun _ => ?_) (fun _ => ?_)
  | ((with_reducible refine Le.ret ?_); first | exact rfl | exact Pu.mk)
  | with_reducible refine Le.itq (fun _ => ?_) (fun _ => ?_)
theorem zkH (p0 : Int) (p1 : Int) (p2 : Int) : Le (fun r x => Pu (D.bool r) [] x) (zgH p0 p1 p2) (zab T 61 [D.int .i64 p0, D.int .i64 p1, D.int .i64 p2] []) := by
 unfold zgH
 refine Le.enter (g := v61) rfl rfl rfl rfl ?_
 repeat' (try conv => arg 3; simp (maxSteps := 999999) only [sx, ty, ↓reduceIte, seval, *, v61, zyD]); first
  | ((with_reducible refine Le.ret ?_); first | exact rfl | exact Pu.mk)
  | with_reducible refine Le.itq (fun _ => ?_) (fun _ => ?_)
noncomputable abbrev zfJ (s1 : TValue) (s45 : Bool) (k : List Fr) : Option Res := go T (enF [.tmp 2] []) ztj k ⟨[Z, .box [D.int .i64 s1.Kind, D.int .i64 s1.Num, D.str s1.Text, D.int .i64 s1.Ref], Z, Z, Z, Z, Z, Z, Z, Z, Z, Z, Z, Z, Z, Z, Z, Z, Z, Z, Z, Z, Z, Z, Z, Z, Z, Z, Z, Z, Z, Z, Z, Z, Z, Z, Z, Z, Z, Z, Z, Z, Z, Z, Z, .d (D.bool s45), Z, Z, Z, Z, Z, Z, Z, Z, Z], []⟩
noncomputable abbrev zfK (s1 : TValue) (s45 : Bool) (k : List Fr) (t : (Bool ⊕ Bool)) (x : Option Res) : Prop := match t with | .inl t => x = bk T (enF [.tmp 2] []) k ⟨[Z, .box [D.int .i64 s1.Kind, D.int .i64 s1.Num, D.str s1.Text, D.int .i64 s1.Ref], Z, Z, Z, Z, Z, Z, Z, Z, Z, Z, Z, Z, Z, Z, Z, Z, Z, Z, Z, Z, Z, Z, Z, Z, Z, Z, Z, Z, Z, Z, Z, Z, Z, Z, Z, Z, Z, Z, Z, Z, Z, Z, Z, .d (D.bool t), Z, Z, Z, Z, Z, Z, Z, Z, Z], []⟩ | .inr t => Pu (D.bool t) [] x
theorem ziW (s1 : TValue) (s45 : Bool) (k : List Fr) : Le (zfK s1 s45 k) (zcG s1 s45) (zfJ s1 s45 k) := by
 unfold zcG zfJ ztj
 repeat' (try conv => arg 3; simp (maxSteps := 999999) only [sx, ty, ↓reduceIte, seval, *]); first
  | (refine Le.call (zgK _ _ _ _) fun _ _ _ hy => ?_; obtain ⟨_, rfl⟩ := hy)
  | (refine Le.call (zeZ _) fun _ _ _ hy => ?_; obtain ⟨_, rfl⟩ := hy)
  | with_reducible refine Le.bool (fun _ => ?_) (fun _ => ?_)
  | ((with_reducible refine Le.ret ?_); first | exact rfl | exact Pu.mk)
noncomputable abbrev zfL (s1 : TValue) (s4 : Int) (s34 : Bool) (k : List Fr) : Option Res := go T (enF [.tmp 2] []) ztk k ⟨[Z, .box [D.int .i64 s1.Kind, D.int .i64 s1.Num, D.str s1.Text, D.int .i64 s1.Ref], Z, Z, .d (D.int .i64 s4), Z, Z, Z, Z, Z, Z, Z, Z, Z, Z, Z, Z, Z, Z, Z, Z, Z, Z, Z, Z, Z, Z, Z, Z, Z, Z, Z, Z, Z, .d (D.bool s34), Z, Z, Z, Z, Z, Z, Z, Z, Z, Z, Z, Z, Z, Z, Z, Z, Z, Z, Z, Z], []⟩
noncomputable abbrev zfM (s1 : TValue) (s4 : Int) (s34 : Bool) (k : List Fr) (t : (Unit ⊕ Bool)) (x : Option Res) : Prop := match t with | .inl t => x = bk T (enF [.tmp 2] []) k ⟨[Z, .box [D.int .i64 s1.Kind, D.int .i64 s1.Num, D.str s1.Text, D.int .i64 s1.Ref], Z, Z, Z, Z, Z, Z, Z, Z, Z, Z, Z, Z, Z, Z, Z, Z, Z, Z, Z, Z, Z, Z, Z, Z, Z, Z, Z, Z, Z, Z, Z, Z, Z, Z, Z, Z, Z, Z, Z, Z, Z, Z, Z, Z, Z, Z, Z, Z, Z, Z, Z, Z, Z], []⟩ | .inr t => Pu (D.bool t) [] x
theorem ziX (s1 : TValue) (s4 : Int) (s34 : Bool) (k : List Fr) : Le (zfM s1 s4 s34 k) (zcb s1 s4 s34) (zfL s1 s4 s34 k) := by
 unfold zcb zfL ztk
 repeat' (try conv => arg 3; simp (maxSteps := 999999) only [sx, ty, ↓reduceIte, seval, *]); first
  | (refine Le.call (zgK _ _ _ _) fun _ _ _ hy => ?_; obtain ⟨_, rfl⟩ := hy)
  | (refine Le.call (zkH _ _ _) fun _ _ _ hy => ?_; obtain ⟨_, rfl⟩ := hy)
  | (refine Le.via (ziW _ _ _) fun t _ _ hy => ?_; rcases t with t | t <;> (try dsimp only [zfK] at hy; first | subst hy | obtain ⟨_, rfl⟩ := hy))
  | with_reducible refine Le.bool (fun _ => ?_) (fun _ => ?_)
  | ((with_reducible refine Le.ret ?_); first | exact rfl | exact Pu.mk)
  | with_reducible refine Le.itq (fun _ => ?_) (fun _ => ?_)
theorem zlt (p0 : TValue) : Le (fun r x => Pu (D.bool r) [] x) (zed p0) (zab T 54 [D.agg [D.int .i64 p0.Kind, D.int .i64 p0.Num, D.str p0.Text, D.int .i64 p0.Ref]] []) := by
 unfold zed
 refine Le.enter (g := v54) rfl rfl rfl rfl ?_
 repeat' (try conv => arg 3; simp (maxSteps := 999999) only [sx, ty, ↓reduceIte, seval, *, v54, zyx]); first
  | (refine Le.call (zgK _ _ _ _) fun _ _ _ hy => ?_; obtain ⟨_, rfl⟩ := hy)
  | (refine Le.call (zkH _ _ _) fun _ _ _ hy => ?_; obtain ⟨_, rfl⟩ := hy)
  | (refine Le.via (ziX _ _ _ _) fun t _ _ hy => ?_; rcases t with t | t <;> (try dsimp only [zfM] at hy; first | subst hy | obtain ⟨_, rfl⟩ := hy))
  | with_reducible refine Le.bool (fun _ => ?_) (fun _ => ?_)
  | ((with_reducible refine Le.ret ?_); first | exact rfl | exact Pu.mk)
  | with_reducible refine Le.itq (fun _ => ?_) (fun _ => ?_)
theorem zrB (p0 : TValue) : Le (fun r x => Pu (D.bool r) [] x) (zjN p0) (zab T 55 [D.agg [D.int .i64 p0.Kind, D.int .i64 p0.Num, D.str p0.Text, D.int .i64 p0.Ref]] []) := by
 unfold zjN
 refine Le.enter (g := v55) rfl rfl rfl rfl ?_
 try conv => arg 3; simp (maxSteps := 999999) only [sx, ty, ↓reduceIte, seval, *, v55, zyy]
 ((with_reducible refine Le.ret ?_); first | exact rfl | exact Pu.mk)
noncomputable abbrev zfr (s0 : List ByteArray) (s1 : ByteArray) (s5 : Int) (k : List Fr) : Option Res := go T (enF [.tmp 4] []) zmz (.lp zmA :: .bl 0 :: .sq (.clr [4,5,6,7,8,9,10,11,12,13,14,15,16,17,18]) :: k) ⟨[.d (D.sl false 1 (List.map D.str s0)), .d (D.str s1), Z, Z, Z, .d (D.int .i64 s5), Z, Z, Z, Z, Z, Z, Z, Z, Z, Z, Z, Z, Z], []⟩
noncomputable abbrev zfs (s0 : List ByteArray) (s1 : ByteArray) (k : List Fr) (t : (Unit ⊕ Int)) (x : Option Res) : Prop := match t with | .inl t => x = bk T (enF [.tmp 4] []) k ⟨[.d (D.sl false 1 (List.map D.str s0)), .d (D.str s1), Z, Z, Z, Z, Z, Z, Z, Z, Z, Z, Z, Z, Z, Z, Z, Z, Z], []⟩ | .inr t => Pu (D.int .i64 t) [] x
theorem zom (s0 : List ByteArray) (s1 : ByteArray) : ∀ (s5 : Int) (k : List Fr), Le (zfs s0 s1 k) (zfH s0 s1 s5) (zfr s0 s1 s5 k) := by
 intro s5 k
 refine Le.cp (X := zfr s0 s1 s5) (Q := zfs s0 s1) ?_ k
 refine zfH.partial_correctness s0 s1 (motive := fun s5 r => ∀ k : List Fr, zfs s0 s1 k r (zfr s0 s1 s5 k)) ?_ s5
 intro rec hrec s5
 refine Le.pc ?_
 intro k
 unfold zfr zmz
 repeat' (try conv => arg 3; simp (maxSteps := 999999) only [sx, ty, ↓reduceIte, seval, *, zvs]); first
  | with_reducible refine Le.idx fun _ _ _ _ => ?_
  | ((with_reducible refine Le.ret ?_); first | exact rfl | exact Pu.mk)
  | with_reducible refine Le.itq (fun _ => ?_) (fun _ => ?_)
  | exact fun r hr => hrec _ r hr k
theorem ztB (p0 : List ByteArray) (p1 : ByteArray) : Le (fun r x => Pu (D.int .i64 r) [] x) (zkG p0 p1) (zab T 107 [D.sl false 1 (List.map D.str p0), D.str p1] []) := by
 unfold zkG
 refine Le.enter (g := v107) rfl rfl rfl rfl ?_
 repeat' (try conv => arg 3; simp (maxSteps := 999999) only [sx, ty, ↓reduceIte, seval, *, zvs, v107, zvt]); first
  | (refine Le.via (zom _ _ _ _) fun t _ _ hy => ?_; rcases t with t | t <;> (try dsimp only [zfs] at hy; first | subst hy | obtain ⟨_, rfl⟩ := hy))
  | ((with_reducible refine Le.ret ?_); first | exact rfl | exact Pu.mk)
noncomputable abbrev zdN (s0 : List ByteArray) (s3 : Int) (k : List Fr) : Option Res := go T (enF [.tmp 2] []) zqy (.lp zqz :: .bl 0 :: .sq (.clr [2,3,4,5,6,7,8,9,10,11,12,13,14,15,16,17,18,19,20,21,22,23,24,25]) :: k) ⟨[.d (D.sl false 1 (List.map D.str s0)), Z, Z, .d (D.int .i64 s3), Z, Z, Z, Z, Z, Z, Z, Z, Z, Z, Z, Z, Z, Z, Z, Z, Z, Z, Z, Z, Z, Z], []⟩
noncomputable abbrev zdO (s0 : List ByteArray) (k : List Fr) (t : (Unit ⊕ Bool)) (x : Option Res) : Prop := match t with | .inl t => x = bk T (enF [.tmp 2] []) k ⟨[.d (D.sl false 1 (List.map D.str s0)), Z, Z, Z, Z, Z, Z, Z, Z, Z, Z, Z, Z, Z, Z, Z, Z, Z, Z, Z, Z, Z, Z, Z, Z, Z], []⟩ | .inr t => Pu (D.bool t) [] x
theorem zkI (s0 : List ByteArray) : ∀ (s3 : Int) (k : List Fr), Le (zdO s0 k) (zeJ s0 s3) (zdN s0 s3 k) := by
 intro s3 k
 refine Le.cp (X := zdN s0 s3) (Q := zdO s0) ?_ k
 refine zeJ.partial_correctness s0 (motive := fun s3 r => ∀ k : List Fr, zdO s0 k r (zdN s0 s3 k)) ?_ s3
 intro rec hrec s3
 refine Le.pc ?_
 intro k
 unfold zdN zqy
 repeat' (try conv => arg 3; simp (maxSteps := 999999) only [sx, ty, ↓reduceIte, seval, *, zyE]); first
  | (refine Le.call (zeZ _) fun _ _ _ hy => ?_; obtain ⟨_, rfl⟩ := hy)
  | (refine Le.call (ztB _ _) fun _ _ _ hy => ?_; obtain ⟨_, rfl⟩ := hy)
  | with_reducible refine Le.idx fun _ _ _ _ => ?_
  | with_reducible refine Le.bool (fun _ => ?_) (fun _ => ?_)
  | ((with_reducible refine Le.ret ?_); first | exact rfl | exact Pu.mk)
  | with_reducible refine Le.itq (fun _ => ?_) (fun _ => ?_)
  | exact fun r hr => hrec _ r hr k
theorem zjv (p0 : List ByteArray) : Le (fun r x => Pu (D.bool r) [] x) (zeW p0) (zab T 62 [D.sl false 1 (List.map D.str p0)] []) := by
 unfold zeW
 refine Le.enter (g := v62) rfl rfl rfl rfl ?_
 repeat' (try conv => arg 3; simp (maxSteps := 999999) only [sx, ty, ↓reduceIte, seval, *, zyE, v62, zyF]); first
  | (refine Le.via (zkI _ _ _) fun t _ _ hy => ?_; rcases t with t | t <;> (try dsimp only [zdO] at hy; first | subst hy | obtain ⟨_, rfl⟩ := hy))
  | ((with_reducible refine Le.ret ?_); first | exact rfl | exact Pu.mk)
noncomputable abbrev zft (s1 : TFunction) (k : List Fr) : Option Res := go T (enF [.tmp 2] []) ztg k ⟨[Z, .box [D.str s1.Name, D.sl false 1 (List.map D.str s1.Params), D.sl false 1 (List.map D.str s1.Locals), D.str s1.Label], Z, Z, Z, Z, Z, Z, Z, Z, Z, Z, Z, Z, Z, Z, Z, Z, Z, Z, Z, Z, Z, Z, Z, Z, Z, Z, Z, Z, Z, Z, Z], []⟩
noncomputable abbrev zix (s1 : TFunction) (k : List Fr) (t : Bool) (x : Option Res) : Prop := Pu (D.bool t) [] x
theorem ziy (s1 : TFunction) (k : List Fr) : Le (zix s1 k) (zdp s1) (zft s1 k) := by
 unfold zdp zft ztg
 try conv => arg 3; simp (maxSteps := 999999) only [sx, ty, ↓reduceIte, seval, *]
 refine Le.chk fun h => ?_
 try conv => arg 3; simp (maxSteps := 999999) only [sx, ty, ↓reduceIte, seval, *]
 refine Le.app fun c31 h_1 h_2 => ?_
 replace h_1 : List.map D.str s1.Params ++ List.map D.str s1.Locals = List.map D.str c31 := by rw [h_1, List.map_append] <;> rfl
 replace h_2 : s1.Params.length + s1.Locals.length ≤ most := h_2
 repeat' (try conv => arg 3; simp (maxSteps := 999999) only [sx, ty, ↓reduceIte, seval, *]); first
  | (refine Le.dcall (zjv _) fun _ _ _ hy => ?_; obtain ⟨_, rfl⟩ := hy)
  | ((with_reducible refine Le.ret ?_); first | exact rfl | exact Pu.mk)
theorem zgL (p0 : TFunction) : Le (fun r x => Pu (D.bool r) [] x) (zcO p0) (zab T 43 [D.agg [D.str p0.Name, D.sl false 1 (List.map D.str p0.Params), D.sl false 1 (List.map D.str p0.Locals), D.str p0.Label]] []) := by
 unfold zcO
 refine Le.enter (g := v43) rfl rfl rfl rfl ?_
 repeat' (try conv => arg 3; simp (maxSteps := 999999) only [sx, ty, ↓reduceIte, seval, *, v43, zyu]); first
  | (refine Le.call (zeZ _) fun _ _ _ hy => ?_; obtain ⟨_, rfl⟩ := hy)
  | exact ziy _ _
  | with_reducible refine Le.bool (fun _ => ?_) (fun _ => ?_)
  | ((with_reducible refine Le.ret ?_); first | exact rfl | exact Pu.mk)
  | with_reducible refine Le.itq (fun _ => ?_) (fun _ => ?_)
theorem zpf (p0 : TRecordType) : Le (fun r x => Pu (D.bool r) [] x) (zgI p0) (zab T 25 [D.agg [D.str p0.Name, D.sl false 1 (List.map D.str p0.Fields)]] []) := by
 unfold zgI
 refine Le.enter (g := v25) rfl rfl rfl rfl ?_
 repeat' (try conv => arg 3; simp (maxSteps := 999999) only [sx, ty, ↓reduceIte, seval, *, v25, zyd]); first
  | (refine Le.call (zeZ _) fun _ _ _ hy => ?_; obtain ⟨_, rfl⟩ := hy)
  | (refine Le.call (zkH _ _ _) fun _ _ _ hy => ?_; obtain ⟨_, rfl⟩ := hy)
  | (refine Le.call (zjv _) fun _ _ _ hy => ?_; obtain ⟨_, rfl⟩ := hy)
  | with_reducible refine Le.bool (fun _ => ?_) (fun _ => ?_)
  | ((with_reducible refine Le.ret ?_); first | exact rfl | exact Pu.mk)
noncomputable abbrev zcV (s1 : TScope) (s3 : Int) (k : List Fr) : Option Res := go T (enF [.tmp 2] []) zpR (.lp zpS :: .bl 0 :: .sq (.clr [0,2,3,4,7,8,9,10,11,12,13,14,15,16,17,18,19,20,21,22,23,24,25,26,27,28,29,30,31,32,33,34,35,36,37,38,39,40,41,42,43,44,45,46,47,48,49,50,51,52,53,54,55,56,57,58,59,60,61,62,63,64,65]) :: k) ⟨[Z, .box [D.sl false 5 (List.map (TBinding.e false) s1.Vars), D.sl false 4 (List.map (TFunction.e false) s1.Functions), D.sl false 2 (List.map (TRecordType.e false) s1.Types)], Z, .d (D.int .i64 s3), Z, Z, Z, Z, Z, Z, Z, Z, Z, Z, Z, Z, Z, Z, Z, Z, Z, Z, Z, Z, Z, Z, Z, Z, Z, Z, Z, Z, Z, Z, Z, Z, Z, Z, Z, Z, Z, Z, Z, Z, Z, Z, Z, Z, Z, Z, Z, Z, Z, Z, Z, Z, Z, Z, Z, Z, Z, Z, Z, Z, Z, Z, Z, Z, Z, Z, Z, Z, Z, Z, Z, Z, Z, Z, Z, Z, Z, Z, Z, Z, Z, Z, Z, Z, Z, Z, Z, Z, Z, Z, Z, Z, Z, Z, Z, Z, Z, Z, Z, Z, Z, Z, Z, Z, Z, Z, Z, Z, Z, Z, Z, Z, Z, Z, Z, Z, Z, Z, Z, Z, Z, Z, Z, Z, Z, Z, Z, Z, Z, Z], []⟩
noncomputable abbrev zcW (s1 : TScope) (k : List Fr) (t : (Unit ⊕ Bool)) (x : Option Res) : Prop := match t with | .inl t => x = bk T (enF [.tmp 2] []) k ⟨[Z, .box [D.sl false 5 (List.map (TBinding.e false) s1.Vars), D.sl false 4 (List.map (TFunction.e false) s1.Functions), D.sl false 2 (List.map (TRecordType.e false) s1.Types)], Z, Z, Z, Z, Z, Z, Z, Z, Z, Z, Z, Z, Z, Z, Z, Z, Z, Z, Z, Z, Z, Z, Z, Z, Z, Z, Z, Z, Z, Z, Z, Z, Z, Z, Z, Z, Z, Z, Z, Z, Z, Z, Z, Z, Z, Z, Z, Z, Z, Z, Z, Z, Z, Z, Z, Z, Z, Z, Z, Z, Z, Z, Z, Z, Z, Z, Z, Z, Z, Z, Z, Z, Z, Z, Z, Z, Z, Z, Z, Z, Z, Z, Z, Z, Z, Z, Z, Z, Z, Z, Z, Z, Z, Z, Z, Z, Z, Z, Z, Z, Z, Z, Z, Z, Z, Z, Z, Z, Z, Z, Z, Z, Z, Z, Z, Z, Z, Z, Z, Z, Z, Z, Z, Z, Z, Z, Z, Z, Z, Z, Z, Z], []⟩ | .inr t => Pu (D.bool t) [] x
theorem ziY (s1 : TScope) : ∀ (s3 : Int) (k : List Fr), Le (zcW s1 k) (zcc s1 s3) (zcV s1 s3 k) := by
 intro s3 k
 refine Le.cp (X := zcV s1 s3) (Q := zcW s1) ?_ k
 refine zcc.partial_correctness s1 (motive := fun s3 r => ∀ k : List Fr, zcW s1 k r (zcV s1 s3 k)) ?_ s3
 intro rec hrec s3
 refine Le.pc ?_
 intro k
 unfold zcV zpR
 repeat' (try conv => arg 3; simp (maxSteps := 999999) only [sx, ty, ↓reduceIte, seval, *, zsY, zsZ, zta]); first
  | (refine Le.dcall (zeZ _) fun _ _ _ hy => ?_; obtain ⟨_, rfl⟩ := hy)
  | (refine Le.dcall (zlt _) fun _ _ _ hy => ?_; obtain ⟨_, rfl⟩ := hy)
  | (refine Le.dcall (zrB _) fun _ _ _ hy => ?_; obtain ⟨_, rfl⟩ := hy)
  | with_reducible refine Le.idx fun _ _ _ _ => ?_
  | with_reducible refine Le.bool (fun _ => ?_) (fun _ => ?_)
  | ((with_reducible refine Le.ret ?_); first | exact rfl | exact Pu.mk)
  | with_reducible refine Le.itq (fun _ => ?_) (fun _ => ?_)
  | exact fun r hr => hrec _ r hr k
noncomputable abbrev zcX (s1 : TScope) (s5 : Int) (k : List Fr) : Option Res := go T (enF [.tmp 2] []) zpT (.lp zpU :: .bl 2 :: .sq (.clr [0,2,3,4,5,7,8,9,10,11,12,13,14,15,16,17,18,19,20,21,22,23,24,25,26,27,28,29,30,31,32,33,34,35,36,37,38,39,40,41,42,43,44,45,46,47,48,49,50,51,52,53,54,55,56,57,58,59,60,61,62,63,64,65,66,67,68,69,70,71,72,73,74,75,76,77,78,79,80,81,82,83,84,85,86,87,88,89,90,91,92,93,94,95,96,97,98,99]) :: k) ⟨[Z, .box [D.sl false 5 (List.map (TBinding.e false) s1.Vars), D.sl false 4 (List.map (TFunction.e false) s1.Functions), D.sl false 2 (List.map (TRecordType.e false) s1.Types)], Z, Z, Z, .d (D.int .i64 s5), Z, Z, Z, Z, Z, Z, Z, Z, Z, Z, Z, Z, Z, Z, Z, Z, Z, Z, Z, Z, Z, Z, Z, Z, Z, Z, Z, Z, Z, Z, Z, Z, Z, Z, Z, Z, Z, Z, Z, Z, Z, Z, Z, Z, Z, Z, Z, Z, Z, Z, Z, Z, Z, Z, Z, Z, Z, Z, Z, Z, Z, Z, Z, Z, Z, Z, Z, Z, Z, Z, Z, Z, Z, Z, Z, Z, Z, Z, Z, Z, Z, Z, Z, Z, Z, Z, Z, Z, Z, Z, Z, Z, Z, Z, Z, Z, Z, Z, Z, Z, Z, Z, Z, Z, Z, Z, Z, Z, Z, Z, Z, Z, Z, Z, Z, Z, Z, Z, Z, Z, Z, Z, Z, Z, Z, Z, Z, Z], []⟩
noncomputable abbrev zcY (s1 : TScope) (k : List Fr) (t : (Unit ⊕ Bool)) (x : Option Res) : Prop := match t with | .inl t => x = bk T (enF [.tmp 2] []) k ⟨[Z, .box [D.sl false 5 (List.map (TBinding.e false) s1.Vars), D.sl false 4 (List.map (TFunction.e false) s1.Functions), D.sl false 2 (List.map (TRecordType.e false) s1.Types)], Z, Z, Z, Z, Z, Z, Z, Z, Z, Z, Z, Z, Z, Z, Z, Z, Z, Z, Z, Z, Z, Z, Z, Z, Z, Z, Z, Z, Z, Z, Z, Z, Z, Z, Z, Z, Z, Z, Z, Z, Z, Z, Z, Z, Z, Z, Z, Z, Z, Z, Z, Z, Z, Z, Z, Z, Z, Z, Z, Z, Z, Z, Z, Z, Z, Z, Z, Z, Z, Z, Z, Z, Z, Z, Z, Z, Z, Z, Z, Z, Z, Z, Z, Z, Z, Z, Z, Z, Z, Z, Z, Z, Z, Z, Z, Z, Z, Z, Z, Z, Z, Z, Z, Z, Z, Z, Z, Z, Z, Z, Z, Z, Z, Z, Z, Z, Z, Z, Z, Z, Z, Z, Z, Z, Z, Z, Z, Z, Z, Z, Z, Z], []⟩ | .inr t => Pu (D.bool t) [] x
theorem ziZ (s1 : TScope) : ∀ (s5 : Int) (k : List Fr), Le (zcY s1 k) (zcd s1 s5) (zcX s1 s5 k) := by
 intro s5 k
 refine Le.cp (X := zcX s1 s5) (Q := zcY s1) ?_ k
 refine zcd.partial_correctness s1 (motive := fun s5 r => ∀ k : List Fr, zcY s1 k r (zcX s1 s5 k)) ?_ s5
 intro rec hrec s5
 refine Le.pc ?_
 intro k
 unfold zcX zpT
 repeat' (try conv => arg 3; simp (maxSteps := 999999) only [sx, ty, ↓reduceIte, seval, *, zsY, zsZ, zta]); first
  | (refine Le.dcall (zgL _) fun _ _ _ hy => ?_; obtain ⟨_, rfl⟩ := hy)
  | with_reducible refine Le.idx fun _ _ _ _ => ?_
  | with_reducible refine Le.bool (fun _ => ?_) (fun _ => ?_)
  | ((with_reducible refine Le.ret ?_); first | exact rfl | exact Pu.mk)
  | with_reducible refine Le.itq (fun _ => ?_) (fun _ => ?_)
  | exact fun r hr => hrec _ r hr k
noncomputable abbrev zcZ (s1 : TScope) (s6 : Int) (k : List Fr) : Option Res := go T (enF [.tmp 2] []) zpV (.lp zpW :: .bl 4 :: .sq (.clr [0,1,2,3,4,5,6,7,8,9,10,11,12,13,14,15,16,17,18,19,20,21,22,23,24,25,26,27,28,29,30,31,32,33,34,35,36,37,38,39,40,41,42,43,44,45,46,47,48,49,50,51,52,53,54,55,56,57,58,59,60,61,62,63,64,65,66,67,68,69,70,71,72,73,74,75,76,77,78,79,80,81,82,83,84,85,86,87,88,89,90,91,92,93,94,95,96,97,98,99,100,101,102,103,104,105,106,107,108,109,110,111,112,113,114,115,116,117,118,119,120,121,122,123,124,125,126,127,128,129,130,131,132,133]) :: k) ⟨[Z, .box [D.sl false 5 (List.map (TBinding.e false) s1.Vars), D.sl false 4 (List.map (TFunction.e false) s1.Functions), D.sl false 2 (List.map (TRecordType.e false) s1.Types)], Z, Z, Z, Z, .d (D.int .i64 s6), Z, Z, Z, Z, Z, Z, Z, Z, Z, Z, Z, Z, Z, Z, Z, Z, Z, Z, Z, Z, Z, Z, Z, Z, Z, Z, Z, Z, Z, Z, Z, Z, Z, Z, Z, Z, Z, Z, Z, Z, Z, Z, Z, Z, Z, Z, Z, Z, Z, Z, Z, Z, Z, Z, Z, Z, Z, Z, Z, Z, Z, Z, Z, Z, Z, Z, Z, Z, Z, Z, Z, Z, Z, Z, Z, Z, Z, Z, Z, Z, Z, Z, Z, Z, Z, Z, Z, Z, Z, Z, Z, Z, Z, Z, Z, Z, Z, Z, Z, Z, Z, Z, Z, Z, Z, Z, Z, Z, Z, Z, Z, Z, Z, Z, Z, Z, Z, Z, Z, Z, Z, Z, Z, Z, Z, Z, Z], []⟩
noncomputable abbrev zda (s1 : TScope) (k : List Fr) (t : (Unit ⊕ Bool)) (x : Option Res) : Prop := match t with | .inl t => x = bk T (enF [.tmp 2] []) k ⟨[Z, Z, Z, Z, Z, Z, Z, Z, Z, Z, Z, Z, Z, Z, Z, Z, Z, Z, Z, Z, Z, Z, Z, Z, Z, Z, Z, Z, Z, Z, Z, Z, Z, Z, Z, Z, Z, Z, Z, Z, Z, Z, Z, Z, Z, Z, Z, Z, Z, Z, Z, Z, Z, Z, Z, Z, Z, Z, Z, Z, Z, Z, Z, Z, Z, Z, Z, Z, Z, Z, Z, Z, Z, Z, Z, Z, Z, Z, Z, Z, Z, Z, Z, Z, Z, Z, Z, Z, Z, Z, Z, Z, Z, Z, Z, Z, Z, Z, Z, Z, Z, Z, Z, Z, Z, Z, Z, Z, Z, Z, Z, Z, Z, Z, Z, Z, Z, Z, Z, Z, Z, Z, Z, Z, Z, Z, Z, Z, Z, Z, Z, Z, Z, Z], []⟩ | .inr t => Pu (D.bool t) [] x
theorem zja (s1 : TScope) : ∀ (s6 : Int) (k : List Fr), Le (zda s1 k) (zce s1 s6) (zcZ s1 s6 k) := by
 intro s6 k
 refine Le.cp (X := zcZ s1 s6) (Q := zda s1) ?_ k
 refine zce.partial_correctness s1 (motive := fun s6 r => ∀ k : List Fr, zda s1 k r (zcZ s1 s6 k)) ?_ s6
 intro rec hrec s6
 refine Le.pc ?_
 intro k
 unfold zcZ zpV
 repeat' (try conv => arg 3; simp (maxSteps := 999999) only [sx, ty, ↓reduceIte, seval, *, zsY, zsZ, zta]); first
  | (refine Le.dcall (zpf _) fun _ _ _ hy => ?_; obtain ⟨_, rfl⟩ := hy)
  | with_reducible refine Le.idx fun _ _ _ _ => ?_
  | with_reducible refine Le.bool (fun _ => ?_) (fun _ => ?_)
  | ((with_reducible refine Le.ret ?_); first | exact rfl | exact Pu.mk)
  | with_reducible refine Le.itq (fun _ => ?_) (fun _ => ?_)
  | exact fun r hr => hrec _ r hr k
noncomputable abbrev zfN (s1 : TScope) (k : List Fr) : Option Res := go T (enF [.tmp 2] []) ztb k ⟨[Z, .box [D.sl false 5 (List.map (TBinding.e false) s1.Vars), D.sl false 4 (List.map (TFunction.e false) s1.Functions), D.sl false 2 (List.map (TRecordType.e false) s1.Types)], Z, Z, Z, Z, Z, Z, Z, Z, Z, Z, Z, Z, Z, Z, Z, Z, Z, Z, Z, Z, Z, Z, Z, Z, Z, Z, Z, Z, Z, Z, Z, Z, Z, Z, Z, Z, Z, Z, Z, Z, Z, Z, Z, Z, Z, Z, Z, Z, Z, Z, Z, Z, Z, Z, Z, Z, Z, Z, Z, Z, Z, Z, Z, Z, Z, Z, Z, Z, Z, Z, Z, Z, Z, Z, Z, Z, Z, Z, Z, Z, Z, Z, Z, Z, Z, Z, Z, Z, Z, Z, Z, Z, Z, Z, Z, Z, Z, Z, Z, Z, Z, Z, Z, Z, Z, Z, Z, Z, Z, Z, Z, Z, Z, Z, Z, Z, Z, Z, Z, Z, Z, Z, Z, Z, Z, Z, Z, Z, Z, Z, Z, Z], []⟩
noncomputable abbrev zjb (s1 : TScope) (k : List Fr) (t : Bool) (x : Option Res) : Prop := Pu (D.bool t) [] x
theorem zjc (s1 : TScope) (k : List Fr) : Le (zjb s1 k) (zdJ s1) (zfN s1 k) := by
 unfold zdJ zfN ztb
 repeat' (try conv => arg 3; simp (maxSteps := 999999) only [sx, ty, ↓reduceIte, seval, *, zsY, zsZ, zta]); first
  | (refine Le.via (ziY _ _ _) fun t _ _ hy => ?_; rcases t with t | t <;> (try dsimp only [zcW] at hy; first | subst hy | obtain ⟨_, rfl⟩ := hy))
  | (refine Le.via (ziZ _ _ _) fun t _ _ hy => ?_; rcases t with t | t <;> (try dsimp only [zcY] at hy; first | subst hy | obtain ⟨_, rfl⟩ := hy))
  | (refine Le.via (zja _ _ _) fun t _ _ hy => ?_; rcases t with t | t <;> (try dsimp only [zda] at hy; first | subst hy | obtain ⟨_, rfl⟩ := hy))
  | ((with_reducible refine Le.ret ?_); first | exact rfl | exact Pu.mk)
theorem zlu (p0 : TScope) : Le (fun r x => Pu (D.bool r) [] x) (zee p0) (zab T 18 [D.agg [D.sl false 5 (List.map (TBinding.e false) p0.Vars), D.sl false 4 (List.map (TFunction.e false) p0.Functions), D.sl false 2 (List.map (TRecordType.e false) p0.Types)]] []) := by
 unfold zee
 refine Le.enter (g := v18) rfl rfl rfl rfl ?_
 repeat' (try conv => arg 3; simp (maxSteps := 999999) only [sx, ty, ↓reduceIte, seval, *, zsY, zsZ, zta, v18, zxY]); first
  | exact zjc _ _
  | ((with_reducible refine Le.ret ?_); first | exact rfl | exact Pu.mk)
  | with_reducible refine Le.itq (fun _ => ?_) (fun _ => ?_)
noncomputable abbrev zgM (s0 : ByteArray) (s3 : List ByteArray) (s4 : Int) (s5 : Int) (k : List Fr) : Option Res := go T (enF [.tmp 2] []) ztl k ⟨[.d (D.str s0), Z, Z, .d (D.sl true 1 (List.map D.str s3)), .d (D.int .i64 s4), .d (D.int .i64 s5), Z, Z, Z, Z, Z, Z, Z, Z, Z, Z, Z, Z, Z, Z, Z, Z, Z, Z, Z, Z, Z, Z, Z, Z, Z, Z, Z, Z, Z, Z], []⟩
noncomputable abbrev zgN (s0 : ByteArray) (s3 : List ByteArray) (s4 : Int) (s5 : Int) (k : List Fr) (t : ((List ByteArray) × Int × ByteArray × (List ByteArray) × Int)) (x : Option Res) : Prop := x = bk T (enF [.tmp 2] []) k ⟨[.d (D.str s0), Z, Z, .d (D.sl true 1 (List.map D.str t.1)), .d (D.int .i64 t.2.1), .d (D.int .i64 s5), Z, Z, Z, Z, Z, Z, Z, Z, Z, Z, Z, Z, Z, Z, Z, Z, Z, Z, Z, Z, Z, .d (D.str s0), .d (D.int .i64 s4), .d (D.int .i64 s5), .d (D.str t.2.2.1), .d (D.sl true 1 (List.map D.str t.2.2.2.1)), Z, .d (D.int .i64 s5), .d (D.int .i64 t.2.2.2.2), Z], []⟩
theorem zkJ (s0 : ByteArray) (s3 : List ByteArray) (s4 : Int) (s5 : Int) (k : List Fr) : Le (zgN s0 s3 s4 s5 k) (zcP s0 s3 s4 s5) (zgM s0 s3 s4 s5 k) := by
 unfold zcP zgM ztl
 try conv => arg 3; simp (maxSteps := 999999) only [sx, ty, ↓reduceIte, seval, *, ztm]
 refine Le.subB fun c30 h h_1 h_2 h_3 h_4 => ?_
 try conv => arg 3; simp (maxSteps := 999999) only [sx, ty, ↓reduceIte, seval, *, ztm]
 refine Le.app fun c32 h_5 h_6 => ?_
 replace h_5 : List.map D.str s3 ++ [D.str c30] = List.map D.str c32 := by rw [h_5, List.map_append] <;> rfl
 replace h_6 : s3.length + 1 ≤ most := h_6
 try conv => arg 3; simp (maxSteps := 999999) only [sx, ty, ↓reduceIte, seval, *, ztm]
 ((with_reducible refine Le.ret ?_); first | exact rfl | exact Pu.mk)
noncomputable abbrev zdP (s0 : ByteArray) (s3 : List ByteArray) (s4 : Int) (s5 : Int) (k : List Fr) : Option Res := go T (enF [.tmp 2] []) zqw (.lp zqx :: .bl 0 :: .sq (.clr [2,4,5,6,7,8,9,10,11,12,13,14,15,16,17,18,19,20,21,22,23,24,25,26,27,28,29,30,31,32,33,34]) :: k) ⟨[.d (D.str s0), Z, Z, .d (D.sl true 1 (List.map D.str s3)), .d (D.int .i64 s4), .d (D.int .i64 s5), Z, Z, Z, Z, Z, Z, Z, Z, Z, Z, Z, Z, Z, Z, Z, Z, Z, Z, Z, Z, Z, Z, Z, Z, Z, Z, Z, Z, Z, Z], []⟩
noncomputable abbrev zdQ (s0 : ByteArray) (k : List Fr) (t : ((List ByteArray))) (x : Option Res) : Prop := x = bk T (enF [.tmp 2] []) k ⟨[.d (D.str s0), Z, Z, .d (D.sl true 1 (List.map D.str t)), Z, Z, Z, Z, Z, Z, Z, Z, Z, Z, Z, Z, Z, Z, Z, Z, Z, Z, Z, Z, Z, Z, Z, Z, Z, Z, Z, Z, Z, Z, Z, Z], []⟩
theorem zkK (s0 : ByteArray) : ∀ (s3 : List ByteArray) (s4 : Int) (s5 : Int) (k : List Fr), Le (zdQ s0 k) (zck s0 s3 s4 s5) (zdP s0 s3 s4 s5 k) := by
 intro s3 s4 s5 k
 refine Le.cp (X := zdP s0 s3 s4 s5) (Q := zdQ s0) ?_ k
 refine zck.partial_correctness s0 (motive := fun s3 s4 s5 r => ∀ k : List Fr, zdQ s0 k r (zdP s0 s3 s4 s5 k)) ?_ s3 s4 s5
 intro rec hrec s3 s4 s5
 refine Le.pc ?_
 intro k
 unfold zdP zqw
 repeat' (try conv => arg 3; simp (maxSteps := 999999) only [sx, ty, ↓reduceIte, seval, *, ztm]); first
  | (refine Le.via (zkJ _ _ _ _ _) fun _ _ _ hy => ?_; try dsimp only [zgN] at hy; first | subst hy | obtain ⟨_, rfl⟩ := hy)
  | with_reducible refine Le.idxB fun _ _ _ _ => ?_
  | ((with_reducible refine Le.ret ?_); first | exact rfl | exact Pu.mk)
  | with_reducible refine Le.itq (fun _ => ?_) (fun _ => ?_)
  | exact fun r hr => hrec _ _ _ r hr k
theorem zon (p0 : ByteArray) : Le (fun r x => Pu (D.sl true 1 (List.map D.str r)) [] x) (zeX p0) (zab T 60 [D.str p0] []) := by
 unfold zeX
 refine Le.enter (g := v60) rfl rfl rfl rfl ?_
 repeat' (try conv => arg 3; simp (maxSteps := 999999) only [sx, ty, ↓reduceIte, seval, *, ztm, v60, zyC]); first
  | (refine Le.via (zkK _ _ _ _ _) fun _ _ _ hy => ?_; try dsimp only [zdQ] at hy; first | subst hy | obtain ⟨_, rfl⟩ := hy)
  | ((with_reducible refine Le.ret ?_); first | exact rfl | exact Pu.mk)
  | with_reducible refine Le.itq (fun _ => ?_) (fun _ => ?_)
noncomputable abbrev zfd (s0 : ByteArray) (s6 : Int) (s7 : Int) (s8 : Int) (k : List Fr) : Option Res := go T (enF [.tmp 2, .tmp 3, .tmp 4, .tmp 5] []) ztc k ⟨[.d (D.str s0), Z, Z, Z, Z, Z, .d (D.int .i64 s6), .d (D.int .i64 s7), .d (D.int .i64 s8), Z, Z, Z, Z, Z, Z, Z, Z, Z, Z, Z, Z, Z, Z, Z, Z, Z, Z, Z, Z, Z, Z, Z, Z, Z, Z, Z, Z, Z, Z, Z, Z, Z, Z, Z, Z, Z, Z, Z, Z, Z, Z, Z, Z, Z], []⟩
noncomputable abbrev zfe (s0 : ByteArray) (s6 : Int) (s7 : Int) (s8 : Int) (k : List Fr) (t : Int) (x : Option Res) : Prop := x = bk T (enF [.tmp 2, .tmp 3, .tmp 4, .tmp 5] []) k ⟨[.d (D.str s0), Z, Z, Z, Z, Z, .d (D.int .i64 s6), .d (D.int .i64 t), .d (D.int .i64 s8), Z, Z, Z, Z, Z, Z, Z, Z, Z, Z, Z, Z, Z, Z, Z, Z, Z, Z, Z, Z, Z, Z, Z, Z, Z, Z, Z, Z, Z, Z, Z, Z, Z, Z, Z, Z, Z, Z, Z, Z, Z, Z, Z, Z, Z], []⟩
theorem zhN (s0 : ByteArray) (s6 : Int) (s7 : Int) (s8 : Int) (k : List Fr) : Le (zfe s0 s6 s7 s8 k) (zaY s0 s6 s7 s8) (zfd s0 s6 s7 s8 k) := by
 unfold zaY zfd ztc
 repeat' (try conv => arg 3; simp (maxSteps := 999999) only [sx, ty, ↓reduceIte, seval, *, zuE]); first
  | with_reducible refine Le.idxB fun _ _ _ _ => ?_
  | ((with_reducible refine Le.ret ?_); first | exact rfl | exact Pu.mk)
  | with_reducible refine Le.itq (fun _ => ?_) (fun _ => ?_)
noncomputable abbrev zcn (s0 : ByteArray) (s6 : Int) (s7 : Int) (s8 : Int) (k : List Fr) : Option Res := go T (enF [.tmp 2, .tmp 3, .tmp 4, .tmp 5] []) zqa (.lp zqb :: .bl 0 :: .sq (.clr [2,3,4,5,8,9,10,11,12,13,14,15,16,17,18,19,20,21,22,23,24,25,26,27,28,29,30,31,32]) :: k) ⟨[.d (D.str s0), Z, Z, Z, Z, Z, .d (D.int .i64 s6), .d (D.int .i64 s7), .d (D.int .i64 s8), Z, Z, Z, Z, Z, Z, Z, Z, Z, Z, Z, Z, Z, Z, Z, Z, Z, Z, Z, Z, Z, Z, Z, Z, Z, Z, Z, Z, Z, Z, Z, Z, Z, Z, Z, Z, Z, Z, Z, Z, Z, Z, Z, Z, Z], []⟩
noncomputable abbrev zco (s0 : ByteArray) (k : List Fr) (t : (Int × Int)) (x : Option Res) : Prop := x = bk T (enF [.tmp 2, .tmp 3, .tmp 4, .tmp 5] []) k ⟨[.d (D.str s0), Z, Z, Z, Z, Z, .d (D.int .i64 t.1), .d (D.int .i64 t.2), Z, Z, Z, Z, Z, Z, Z, Z, Z, Z, Z, Z, Z, Z, Z, Z, Z, Z, Z, Z, Z, Z, Z, Z, Z, Z, Z, Z, Z, Z, Z, Z, Z, Z, Z, Z, Z, Z, Z, Z, Z, Z, Z, Z, Z, Z], []⟩
theorem zhO (s0 : ByteArray) : ∀ (s6 : Int) (s7 : Int) (s8 : Int) (k : List Fr), Le (zco s0 k) (zaZ s0 s6 s7 s8) (zcn s0 s6 s7 s8 k) := by
 intro s6 s7 s8 k
 refine Le.cp (X := zcn s0 s6 s7 s8) (Q := zco s0) ?_ k
 refine zaZ.partial_correctness s0 (motive := fun s6 s7 s8 r => ∀ k : List Fr, zco s0 k r (zcn s0 s6 s7 s8 k)) ?_ s6 s7 s8
 intro rec hrec s6 s7 s8
 refine Le.pc ?_
 intro k
 unfold zcn zqa
 repeat' (try conv => arg 3; simp (maxSteps := 999999) only [sx, ty, ↓reduceIte, seval, *, zuE]); first
  | (refine Le.via (zhN _ _ _ _ _) fun _ _ _ hy => ?_; try dsimp only [zfe] at hy; first | subst hy | obtain ⟨_, rfl⟩ := hy)
  | with_reducible refine Le.idxB fun _ _ _ _ => ?_
  | ((with_reducible refine Le.ret ?_); first | exact rfl | exact Pu.mk)
  | with_reducible refine Le.itq (fun _ => ?_) (fun _ => ?_)
  | exact fun r hr => hrec _ _ _ r hr k
noncomputable abbrev zff (s0 : ByteArray) (s6 : Int) (s7 : Int) (k : List Fr) : Option Res := go T (enF [.tmp 2, .tmp 3, .tmp 4, .tmp 5] []) ztd k ⟨[.d (D.str s0), Z, Z, Z, Z, Z, .d (D.int .i64 s6), .d (D.int .i64 s7), Z, Z, Z, Z, Z, Z, Z, Z, Z, Z, Z, Z, Z, Z, Z, Z, Z, Z, Z, Z, Z, Z, Z, Z, Z, Z, Z, Z, Z, Z, Z, Z, Z, Z, Z, Z, Z, Z, Z, Z, Z, Z, Z, Z, Z, Z], []⟩
noncomputable abbrev zhP (s0 : ByteArray) (s6 : Int) (s7 : Int) (k : List Fr) (t : ((ByteArray × (List ByteArray) × (List ByteArray) × Bool))) (x : Option Res) : Prop := Pu (D.tup [D.str t.1, D.sl true 1 (List.map D.str t.2.1), D.sl true 1 (List.map D.str t.2.2.1), D.bool t.2.2.2]) [] x
theorem zhQ (s0 : ByteArray) (s6 : Int) (s7 : Int) (k : List Fr) : Le (zhP s0 s6 s7 k) (zcQ s0 s6 s7) (zff s0 s6 s7 k) := by
 unfold zcQ zff ztd
 repeat' (try conv => arg 3; simp (maxSteps := 999999) only [sx, ty, ↓reduceIte, seval, *, zuE]); first
  | (refine Le.dcall (zon _) fun _ _ _ hy => ?_; obtain ⟨_, rfl⟩ := hy)
  | with_reducible refine Le.subBH fun _ _ _ _ => ?_
  | with_reducible refine Le.subB fun _ _ _ _ _ _ => ?_
  | with_reducible refine Le.subBL fun _ _ _ _ => ?_
  | ((with_reducible refine Le.ret ?_); first | exact rfl | exact Pu.mk)
theorem zjB (p0 : ByteArray) : Le (fun r x => Pu (D.tup [D.str r.1, D.sl true 1 (List.map D.str r.2.1), D.sl true 1 (List.map D.str r.2.2.1), D.bool r.2.2.2]) [] x) (zdl p0) (zab T 24 [D.str p0] []) := by
 unfold zdl
 refine Le.enter (g := v24) rfl rfl rfl rfl ?_
 repeat' (try conv => arg 3; simp (maxSteps := 999999) only [sx, ty, ↓reduceIte, seval, *, zuE, v24, zyc]); first
  | (refine Le.via (zhO _ _ _ _ _) fun _ _ _ hy => ?_; try dsimp only [zco] at hy; first | subst hy | obtain ⟨_, rfl⟩ := hy)
  | exact zhQ _ _ _ _
  | ((with_reducible refine Le.ret ?_); first | exact rfl | exact Pu.mk)
  | with_reducible refine Le.itq (fun _ => ?_) (fun _ => ?_)
theorem ziz (p0 : TFunction) : Le (fun r x => Pu (D.agg [D.str r.Name, D.sl true 1 (List.map D.str r.Params), D.sl true 1 (List.map D.str r.Locals), D.str r.Label]) [] x) (zct p0) (zab T 63 [D.agg [D.str p0.Name, D.sl false 1 (List.map D.str p0.Params), D.sl false 1 (List.map D.str p0.Locals), D.str p0.Label]] []) := by
 unfold zct
 refine Le.enter (g := v63) rfl rfl rfl rfl ?_
 repeat' (try conv => arg 3; simp (maxSteps := 999999) only [sx, ty, ↓reduceIte, seval, *, v63, zyG]); first
  | with_reducible refine Le.chk fun _ => ?_
  | ((with_reducible refine Le.ret ?_); first | exact rfl | exact Pu.mk)
theorem zlv (p0 : TRecordType) : Le (fun r x => Pu (D.agg [D.str r.Name, D.sl true 1 (List.map D.str r.Fields)]) [] x) (zef p0) (zab T 64 [D.agg [D.str p0.Name, D.sl false 1 (List.map D.str p0.Fields)]] []) := by
 unfold zef
 refine Le.enter (g := v64) rfl rfl rfl rfl ?_
 repeat' (try conv => arg 3; simp (maxSteps := 999999) only [sx, ty, ↓reduceIte, seval, *, v64, zyH]); first
  | with_reducible refine Le.chk fun _ => ?_
  | ((with_reducible refine Le.ret ?_); first | exact rfl | exact Pu.mk)
noncomputable abbrev zeL (s1 : TScope) (s2 : TScope) (s3 : TScope) (s4 : Int) (k : List Fr) : Option Res := go T (enF [.cell 2 (.many 3)] []) zqc (.lp zqd :: .bl 0 :: .sq (.clr [0,4,6,7,8,9,10,11,12,13,14,15,16,17,18,19,20,21,22,23,24,25,26,27,28]) :: k) ⟨[Z, .box [D.sl false 5 (List.map (TBinding.e false) s1.Vars), D.sl false 4 (List.map (TFunction.e false) s1.Functions), D.sl false 2 (List.map (TRecordType.e false) s1.Types)], .box [D.sl true 5 (List.map (TBinding.e false) s2.Vars), D.sl true 4 (List.map (TFunction.e true) s2.Functions), D.sl true 2 (List.map (TRecordType.e true) s2.Types)], .box [D.sl true 5 (List.map (TBinding.e false) s3.Vars), D.sl true 4 (List.map (TFunction.e true) s3.Functions), D.sl true 2 (List.map (TRecordType.e true) s3.Types)], .d (D.int .i64 s4), Z, Z, Z, Z, Z, Z, Z, Z, Z, Z, Z, Z, Z, Z, Z, Z, Z, Z, Z, Z, Z, Z, Z, Z, Z, Z, Z, Z, Z, Z, Z, Z, Z, Z, Z, Z, Z, Z, Z, Z, Z, Z, Z], []⟩
noncomputable abbrev zeM (s1 : TScope) (s2 : TScope) (k : List Fr) (t : TScope) (x : Option Res) : Prop := x = bk T (enF [.cell 2 (.many 3)] []) k ⟨[Z, .box [D.sl false 5 (List.map (TBinding.e false) s1.Vars), D.sl false 4 (List.map (TFunction.e false) s1.Functions), D.sl false 2 (List.map (TRecordType.e false) s1.Types)], .box [D.sl true 5 (List.map (TBinding.e false) s2.Vars), D.sl true 4 (List.map (TFunction.e true) s2.Functions), D.sl true 2 (List.map (TRecordType.e true) s2.Types)], .box [D.sl true 5 (List.map (TBinding.e false) t.Vars), D.sl true 4 (List.map (TFunction.e true) t.Functions), D.sl true 2 (List.map (TRecordType.e true) t.Types)], Z, Z, Z, Z, Z, Z, Z, Z, Z, Z, Z, Z, Z, Z, Z, Z, Z, Z, Z, Z, Z, Z, Z, Z, Z, Z, Z, Z, Z, Z, Z, Z, Z, Z, Z, Z, Z, Z, Z, Z, Z, Z, Z, Z], []⟩
theorem zmS (s1 : TScope) (s2 : TScope) : ∀ (s3 : TScope) (s4 : Int) (k : List Fr), Le (zeM s1 s2 k) (zfb s1 s2 s3 s4) (zeL s1 s2 s3 s4 k) := by
 intro s3 s4 k
 refine Le.cp (X := zeL s1 s2 s3 s4) (Q := zeM s1 s2) ?_ k
 refine zfb.partial_correctness s1 s2 (motive := fun s3 s4 r => ∀ k : List Fr, zeM s1 s2 k r (zeL s1 s2 s3 s4 k)) ?_ s3 s4
 intro rec hrec s3 s4
 refine Le.pc ?_
 intro k
 unfold zeL zqc
 try conv => arg 3; simp (maxSteps := 999999) only [sx, ty, ↓reduceIte, seval, *, ziN, ziO]
 refine Le.itq (fun h => ?_) (fun h => ?_)
 ·try conv => arg 3; simp (maxSteps := 999999) only [sx, ty, ↓reduceIte, seval, *, ziN, ziO]
  refine Le.idx fun a23 h_1 h_2 h_3 => ?_
  try conv => arg 3; simp (maxSteps := 999999) only [sx, ty, ↓reduceIte, seval, *, ziN, ziO]
  refine Le.dcall (ziz a23) fun r25 h_4 _ hy => ?_
  obtain ⟨_, rfl⟩ := hy
  try conv => arg 3; simp (maxSteps := 999999) only [sx, ty, ↓reduceIte, seval, *, ziN, ziO]
  refine Le.app fun c27 h_5 h_6 => ?_
  replace h_5 : List.map (TFunction.e true) s3.Functions ++ [D.agg [D.str r25.Name, D.sl true 1 (List.map D.str r25.Params), D.sl true 1 (List.map D.str r25.Locals), D.str r25.Label]] = List.map (TFunction.e true) c27 := by rw [h_5, List.map_append] <;> rfl
  replace h_6 : s3.Functions.length + 1 ≤ most := h_6
  try conv => arg 3; simp (maxSteps := 999999) only [sx, ty, ↓reduceIte, seval, *, ziN, ziO]
  exact fun r hr => hrec _ _ r hr k
 ·try conv => arg 3; simp (maxSteps := 999999) only [sx, ty, ↓reduceIte, seval, *, ziN, ziO]
  ((with_reducible refine Le.ret ?_); first | exact rfl | exact Pu.mk)
noncomputable abbrev zeN (s1 : TScope) (s2 : TScope) (s3 : TScope) (s5 : Int) (k : List Fr) : Option Res := go T (enF [.cell 2 (.many 3)] []) zqe (.lp zqf :: .bl 2 :: .sq (.clr [0,1,4,5,6,7,8,9,10,11,12,13,14,15,16,17,18,19,20,21,22,23,24,25,26,27,28,29,30,31,32,33,34,35,36,37,38,39,40,41,42,43,44,45,46]) :: k) ⟨[Z, .box [D.sl false 5 (List.map (TBinding.e false) s1.Vars), D.sl false 4 (List.map (TFunction.e false) s1.Functions), D.sl false 2 (List.map (TRecordType.e false) s1.Types)], .box [D.sl true 5 (List.map (TBinding.e false) s2.Vars), D.sl true 4 (List.map (TFunction.e true) s2.Functions), D.sl true 2 (List.map (TRecordType.e true) s2.Types)], .box [D.sl true 5 (List.map (TBinding.e false) s3.Vars), D.sl true 4 (List.map (TFunction.e true) s3.Functions), D.sl true 2 (List.map (TRecordType.e true) s3.Types)], Z, .d (D.int .i64 s5), Z, Z, Z, Z, Z, Z, Z, Z, Z, Z, Z, Z, Z, Z, Z, Z, Z, Z, Z, Z, Z, Z, Z, Z, Z, Z, Z, Z, Z, Z, Z, Z, Z, Z, Z, Z, Z, Z, Z, Z, Z, Z], []⟩
noncomputable abbrev zeO (s1 : TScope) (s2 : TScope) (k : List Fr) (t : TScope) (x : Option Res) : Prop := x = bk T (enF [.cell 2 (.many 3)] []) k ⟨[Z, Z, .box [D.sl true 5 (List.map (TBinding.e false) s2.Vars), D.sl true 4 (List.map (TFunction.e true) s2.Functions), D.sl true 2 (List.map (TRecordType.e true) s2.Types)], .box [D.sl true 5 (List.map (TBinding.e false) t.Vars), D.sl true 4 (List.map (TFunction.e true) t.Functions), D.sl true 2 (List.map (TRecordType.e true) t.Types)], Z, Z, Z, Z, Z, Z, Z, Z, Z, Z, Z, Z, Z, Z, Z, Z, Z, Z, Z, Z, Z, Z, Z, Z, Z, Z, Z, Z, Z, Z, Z, Z, Z, Z, Z, Z, Z, Z, Z, Z, Z, Z, Z, Z], []⟩
theorem zmT (s1 : TScope) (s2 : TScope) : ∀ (s3 : TScope) (s5 : Int) (k : List Fr), Le (zeO s1 s2 k) (zfc s1 s2 s3 s5) (zeN s1 s2 s3 s5 k) := by
 intro s3 s5 k
 refine Le.cp (X := zeN s1 s2 s3 s5) (Q := zeO s1 s2) ?_ k
 refine zfc.partial_correctness s1 s2 (motive := fun s3 s5 r => ∀ k : List Fr, zeO s1 s2 k r (zeN s1 s2 s3 s5 k)) ?_ s3 s5
 intro rec hrec s3 s5
 refine Le.pc ?_
 intro k
 unfold zeN zqe
 try conv => arg 3; simp (maxSteps := 999999) only [sx, ty, ↓reduceIte, seval, *, ziN, ziO]
 refine Le.itq (fun h => ?_) (fun h => ?_)
 ·try conv => arg 3; simp (maxSteps := 999999) only [sx, ty, ↓reduceIte, seval, *, ziN, ziO]
  refine Le.idx fun a41 h_1 h_2 h_3 => ?_
  try conv => arg 3; simp (maxSteps := 999999) only [sx, ty, ↓reduceIte, seval, *, ziN, ziO]
  refine Le.dcall (zlv a41) fun r43 h_4 _ hy => ?_
  obtain ⟨_, rfl⟩ := hy
  try conv => arg 3; simp (maxSteps := 999999) only [sx, ty, ↓reduceIte, seval, *, ziN, ziO]
  refine Le.app fun c45 h_5 h_6 => ?_
  replace h_5 : List.map (TRecordType.e true) s3.Types ++ [D.agg [D.str r43.Name, D.sl true 1 (List.map D.str r43.Fields)]] = List.map (TRecordType.e true) c45 := by rw [h_5, List.map_append] <;> rfl
  replace h_6 : s3.Types.length + 1 ≤ most := h_6
  try conv => arg 3; simp (maxSteps := 999999) only [sx, ty, ↓reduceIte, seval, *, ziN, ziO]
  exact fun r hr => hrec _ _ r hr k
 ·try conv => arg 3; simp (maxSteps := 999999) only [sx, ty, ↓reduceIte, seval, *, ziN, ziO]
  ((with_reducible refine Le.ret ?_); first | exact rfl | exact Pu.mk)
theorem zrC (p0 : TScope) : Le (fun r x => Pu (D.agg [D.sl true 5 (List.map (TBinding.e false) r.Vars), D.sl true 4 (List.map (TFunction.e true) r.Functions), D.sl true 2 (List.map (TRecordType.e true) r.Types)]) [] x) (ziv p0) (zab T 26 [D.agg [D.sl false 5 (List.map (TBinding.e false) p0.Vars), D.sl false 4 (List.map (TFunction.e false) p0.Functions), D.sl false 2 (List.map (TRecordType.e false) p0.Types)]] []) := by
 unfold ziv
 refine Le.enter (g := v26) rfl rfl rfl rfl ?_
 repeat' (try conv => arg 3; simp (maxSteps := 999999) only [sx, ty, ↓reduceIte, seval, *, ziN, ziO, v26, zye]); first
  | (refine Le.via (zmS _ _ _ _ _) fun _ _ _ hy => ?_; try dsimp only [zeM] at hy; first | subst hy | obtain ⟨_, rfl⟩ := hy)
  | (refine Le.via (zmT _ _ _ _ _) fun _ _ _ hy => ?_; try dsimp only [zeO] at hy; first | subst hy | obtain ⟨_, rfl⟩ := hy)
  | with_reducible refine Le.chk fun _ => ?_
  | ((with_reducible refine Le.ret ?_); first | exact rfl | exact Pu.mk)
noncomputable abbrev zej (s1 : ByteArray) (s2 : ByteArray) (s6 : TScope) (s8 : ByteArray) (s12 : TFunction) (s13 : TScope) (s14 : List TFunction) (s15 : Int) (k : List Fr) : Option Res := go T (enF [.cell 6 (.many 3), .tmp 7] []) zsS k ⟨[Z, .d (D.str s1), .d (D.str s2), Z, Z, Z, .box [D.sl true 5 (List.map (TBinding.e false) s6.Vars), D.sl true 4 (List.map (TFunction.e true) s6.Functions), D.sl true 2 (List.map (TRecordType.e true) s6.Types)], Z, .d (D.str s8), Z, Z, Z, .box [D.str s12.Name, D.sl false 1 (List.map D.str s12.Params), D.sl false 1 (List.map D.str s12.Locals), D.str s12.Label], .box [D.sl false 5 (List.map (TBinding.e false) s13.Vars), D.sl false 4 (List.map (TFunction.e false) s13.Functions), D.sl false 2 (List.map (TRecordType.e false) s13.Types)], .d (D.sl true 4 (List.map (TFunction.e false) s14)), .d (D.int .i64 s15), Z, Z, Z, Z, Z, Z, Z, Z, Z, Z, Z, Z, Z, Z, Z, Z, Z, Z, Z, Z, Z, Z, Z, Z, Z, Z, Z, Z, Z, Z, Z, Z, Z, Z, Z, Z, Z, Z, Z, Z, Z, Z, Z, Z, Z, Z, Z, Z, Z, Z, Z, Z, Z, Z, Z, Z, Z, Z, Z, Z, Z, Z, Z, Z, Z, Z, Z, Z, Z, Z, Z, Z, Z, Z, Z, Z, Z, Z, Z, Z, Z, Z, Z, Z, Z, Z, Z, Z, Z, Z, Z, Z, Z, Z, Z, Z, Z, Z, Z], []⟩
noncomputable abbrev zek (s1 : ByteArray) (s2 : ByteArray) (s6 : TScope) (s8 : ByteArray) (s12 : TFunction) (s13 : TScope) (s14 : List TFunction) (s15 : Int) (k : List Fr) (t : ((List TFunction) × Int × (List TFunction) × ByteArray × (List ByteArray) × (List ByteArray) × ByteArray × TFunction × (List TFunction) × Int)) (x : Option Res) : Prop := x = bk T (enF [.cell 6 (.many 3), .tmp 7] []) k ⟨[Z, .d (D.str s1), .d (D.str s2), Z, Z, Z, .box [D.sl true 5 (List.map (TBinding.e false) s6.Vars), D.sl true 4 (List.map (TFunction.e true) s6.Functions), D.sl true 2 (List.map (TRecordType.e true) s6.Types)], Z, .d (D.str s8), Z, Z, Z, .box [D.str s12.Name, D.sl false 1 (List.map D.str s12.Params), D.sl false 1 (List.map D.str s12.Locals), D.str s12.Label], .box [D.sl false 5 (List.map (TBinding.e false) s13.Vars), D.sl false 4 (List.map (TFunction.e false) s13.Functions), D.sl false 2 (List.map (TRecordType.e false) s13.Types)], .d (D.sl true 4 (List.map (TFunction.e false) t.1)), .d (D.int .i64 t.2.1), Z, Z, Z, Z, Z, Z, Z, Z, Z, Z, Z, Z, Z, Z, Z, Z, Z, Z, Z, Z, Z, Z, Z, Z, Z, Z, Z, Z, Z, Z, Z, Z, Z, Z, Z, Z, Z, Z, Z, Z, Z, Z, Z, Z, Z, Z, Z, Z, Z, Z, Z, Z, Z, Z, Z, Z, .ptr ⟨.slot 13, [], 1⟩, .d (D.sl false 4 (List.map (TFunction.e false) t.2.2.1)), .d (D.int .i64 s15), .d (D.pim [D.str t.2.2.2.1, D.sl false 1 (List.map D.str t.2.2.2.2.1), D.sl false 1 (List.map D.str t.2.2.2.2.2.1), D.str t.2.2.2.2.2.2.1] 0), .d (D.agg [D.str t.2.2.2.2.2.2.2.1.Name, D.sl false 1 (List.map D.str t.2.2.2.2.2.2.2.1.Params), D.sl false 1 (List.map D.str t.2.2.2.2.2.2.2.1.Locals), D.str t.2.2.2.2.2.2.2.1.Label]), .d (D.sl true 4 (List.map (TFunction.e false) t.2.2.2.2.2.2.2.2.1)), Z, .d (D.int .i64 s15), .d (D.int .i64 t.2.2.2.2.2.2.2.2.2), Z, Z, Z, Z, Z, Z, Z, Z, Z, Z, Z, Z, Z, Z, Z, Z, Z, Z, Z, Z, Z, Z, Z, Z, Z, Z, Z, Z, Z, Z, Z, Z, Z, Z], []⟩
theorem zgO (s1 : ByteArray) (s2 : ByteArray) (s6 : TScope) (s8 : ByteArray) (s12 : TFunction) (s13 : TScope) (s14 : List TFunction) (s15 : Int) (k : List Fr) : Le (zek s1 s2 s6 s8 s12 s13 s14 s15 k) (zcl s1 s2 s6 s8 s12 s13 s14 s15) (zej s1 s2 s6 s8 s12 s13 s14 s15 k) := by
 unfold zcl zej zsS
 try conv => arg 3; simp (maxSteps := 999999) only [sx, ty, ↓reduceIte, seval, *, zip]
 refine Le.idx fun a75 h h_1 h_2 => ?_
 try conv => arg 3; simp (maxSteps := 999999) only [sx, ty, ↓reduceIte, seval, *, zip]
 refine Le.app fun c78 h_3 h_4 => ?_
 replace h_3 : List.map (TFunction.e false) s14 ++ [D.agg [D.str a75.Name, D.sl false 1 (List.map D.str a75.Params), D.sl false 1 (List.map D.str a75.Locals), D.str a75.Label]] = List.map (TFunction.e false) c78 := by rw [h_3, List.map_append] <;> rfl
 replace h_4 : s14.length + 1 ≤ most := h_4
 try conv => arg 3; simp (maxSteps := 999999) only [sx, ty, ↓reduceIte, seval, *, zip]
 ((with_reducible refine Le.ret ?_); first | exact rfl | exact Pu.mk)
noncomputable abbrev zbN (s1 : ByteArray) (s2 : ByteArray) (s6 : TScope) (s8 : ByteArray) (s12 : TFunction) (s13 : TScope) (s14 : List TFunction) (s15 : Int) (k : List Fr) : Option Res := go T (enF [.cell 6 (.many 3), .tmp 7] []) zpP (.lp zpQ :: .bl 0 :: .sq (.clr [0,3,7,9,10,11,16,17,18,19,20,21,22,23,24,25,26,27,28,29,30,31,32,33,34,35,36,37,38,39,40,41,42,43,44,45,46,47,48,49,50,51,52,53,54,55,56,57,58,59,60,61,62,63,64,65,66,67,68,69,70,71,72,73,74,75,76,77,78,79,80]) :: k) ⟨[Z, .d (D.str s1), .d (D.str s2), Z, Z, Z, .box [D.sl true 5 (List.map (TBinding.e false) s6.Vars), D.sl true 4 (List.map (TFunction.e true) s6.Functions), D.sl true 2 (List.map (TRecordType.e true) s6.Types)], Z, .d (D.str s8), Z, Z, Z, .box [D.str s12.Name, D.sl false 1 (List.map D.str s12.Params), D.sl false 1 (List.map D.str s12.Locals), D.str s12.Label], .box [D.sl false 5 (List.map (TBinding.e false) s13.Vars), D.sl false 4 (List.map (TFunction.e false) s13.Functions), D.sl false 2 (List.map (TRecordType.e false) s13.Types)], .d (D.sl true 4 (List.map (TFunction.e false) s14)), .d (D.int .i64 s15), Z, Z, Z, Z, Z, Z, Z, Z, Z, Z, Z, Z, Z, Z, Z, Z, Z, Z, Z, Z, Z, Z, Z, Z, Z, Z, Z, Z, Z, Z, Z, Z, Z, Z, Z, Z, Z, Z, Z, Z, Z, Z, Z, Z, Z, Z, Z, Z, Z, Z, Z, Z, Z, Z, Z, Z, Z, Z, Z, Z, Z, Z, Z, Z, Z, Z, Z, Z, Z, Z, Z, Z, Z, Z, Z, Z, Z, Z, Z, Z, Z, Z, Z, Z, Z, Z, Z, Z, Z, Z, Z, Z, Z, Z, Z, Z, Z, Z, Z], []⟩
noncomputable abbrev zbO (s1 : ByteArray) (s2 : ByteArray) (s6 : TScope) (s8 : ByteArray) (s12 : TFunction) (s13 : TScope) (k : List Fr) (t : ((List TFunction) × Int)) (x : Option Res) : Prop := x = bk T (enF [.cell 6 (.many 3), .tmp 7] []) k ⟨[Z, .d (D.str s1), .d (D.str s2), Z, Z, Z, .box [D.sl true 5 (List.map (TBinding.e false) s6.Vars), D.sl true 4 (List.map (TFunction.e true) s6.Functions), D.sl true 2 (List.map (TRecordType.e true) s6.Types)], Z, .d (D.str s8), Z, Z, Z, .box [D.str s12.Name, D.sl false 1 (List.map D.str s12.Params), D.sl false 1 (List.map D.str s12.Locals), D.str s12.Label], .box [D.sl false 5 (List.map (TBinding.e false) s13.Vars), D.sl false 4 (List.map (TFunction.e false) s13.Functions), D.sl false 2 (List.map (TRecordType.e false) s13.Types)], .d (D.sl true 4 (List.map (TFunction.e false) t.1)), .d (D.int .i64 t.2), Z, Z, Z, Z, Z, Z, Z, Z, Z, Z, Z, Z, Z, Z, Z, Z, Z, Z, Z, Z, Z, Z, Z, Z, Z, Z, Z, Z, Z, Z, Z, Z, Z, Z, Z, Z, Z, Z, Z, Z, Z, Z, Z, Z, Z, Z, Z, Z, Z, Z, Z, Z, Z, Z, Z, Z, Z, Z, Z, Z, Z, Z, Z, Z, Z, Z, Z, Z, Z, Z, Z, Z, Z, Z, Z, Z, Z, Z, Z, Z, Z, Z, Z, Z, Z, Z, Z, Z, Z, Z, Z, Z, Z, Z, Z, Z, Z, Z, Z], []⟩
theorem zgP (s1 : ByteArray) (s2 : ByteArray) (s6 : TScope) (s8 : ByteArray) (s12 : TFunction) (s13 : TScope) : ∀ (s14 : List TFunction) (s15 : Int) (k : List Fr), Le (zbO s1 s2 s6 s8 s12 s13 k) (zbz s1 s2 s6 s8 s12 s13 s14 s15) (zbN s1 s2 s6 s8 s12 s13 s14 s15 k) := by
 intro s14 s15 k
 refine Le.cp (X := zbN s1 s2 s6 s8 s12 s13 s14 s15) (Q := zbO s1 s2 s6 s8 s12 s13) ?_ k
 refine zbz.partial_correctness s1 s2 s6 s8 s12 s13 (motive := fun s14 s15 r => ∀ k : List Fr, zbO s1 s2 s6 s8 s12 s13 k r (zbN s1 s2 s6 s8 s12 s13 s14 s15 k)) ?_ s14 s15
 intro rec hrec s14 s15
 refine Le.pc ?_
 intro k
 unfold zbN zpP
 repeat' (try conv => arg 3; simp (maxSteps := 999999) only [sx, ty, ↓reduceIte, seval, *, zip]); first
  | (refine Le.via (zgO _ _ _ _ _ _ _ _ _) fun _ _ _ hy => ?_; try dsimp only [zek] at hy; first | subst hy | obtain ⟨_, rfl⟩ := hy)
  | with_reducible refine Le.idx fun _ _ _ _ => ?_
  | with_reducible refine Le.bool (fun _ => ?_) (fun _ => ?_)
  | ((with_reducible refine Le.ret ?_); first | exact rfl | exact Pu.mk)
  | with_reducible refine Le.itq (fun _ => ?_) (fun _ => ?_)
  | exact fun r hr => hrec _ _ r hr k
noncomputable abbrev zel (s1 : ByteArray) (s2 : ByteArray) (s6 : TScope) (s13 : TScope) (s14 : List TFunction) (s15 : Int) (k : List Fr) : Option Res := go T (enF [.cell 6 (.many 3), .tmp 7] []) zsT k ⟨[Z, .d (D.str s1), .d (D.str s2), Z, Z, Z, .box [D.sl true 5 (List.map (TBinding.e false) s6.Vars), D.sl true 4 (List.map (TFunction.e true) s6.Functions), D.sl true 2 (List.map (TRecordType.e true) s6.Types)], Z, Z, Z, Z, Z, Z, .box [D.sl false 5 (List.map (TBinding.e false) s13.Vars), D.sl false 4 (List.map (TFunction.e false) s13.Functions), D.sl false 2 (List.map (TRecordType.e false) s13.Types)], .d (D.sl true 4 (List.map (TFunction.e false) s14)), .d (D.int .i64 s15), Z, Z, Z, Z, Z, Z, Z, Z, Z, Z, Z, Z, Z, Z, Z, Z, Z, Z, Z, Z, Z, Z, Z, Z, Z, Z, Z, Z, Z, Z, Z, Z, Z, Z, Z, Z, Z, Z, Z, Z, Z, Z, Z, Z, Z, Z, Z, Z, Z, Z, Z, Z, Z, Z, Z, Z, Z, Z, Z, Z, Z, Z, Z, Z, Z, Z, Z, Z, Z, Z, Z, Z, Z, Z, Z, Z, Z, Z, Z, Z, Z, Z, Z, Z, Z, Z, Z, Z, Z, Z, Z, Z, Z, Z, Z, Z, Z, Z, Z], []⟩
noncomputable abbrev zem (s1 : ByteArray) (s2 : ByteArray) (s6 : TScope) (s13 : TScope) (s14 : List TFunction) (s15 : Int) (k : List Fr) (t : (((TScope × Int) ⊕ (TScope × Int)))) (x : Option Res) : Prop := match t with | .inl r => Pu (D.tup [D.agg [D.sl true 5 (List.map (TBinding.e false) r.1.Vars), D.sl true 4 (List.map (TFunction.e true) r.1.Functions), D.sl true 2 (List.map (TRecordType.e true) r.1.Types)], D.int .i64 r.2]) [] x | .inr r => Pu (D.tup [D.agg [D.sl false 5 (List.map (TBinding.e false) r.1.Vars), D.sl true 4 (List.map (TFunction.e false) r.1.Functions), D.sl false 2 (List.map (TRecordType.e false) r.1.Types)], D.int .i64 r.2]) [] x
theorem zgQ (s1 : ByteArray) (s2 : ByteArray) (s6 : TScope) (s13 : TScope) (s14 : List TFunction) (s15 : Int) (k : List Fr) : Le (zem s1 s2 s6 s13 s14 s15 k) (zaD s1 s2 s6 s13 s14 s15) (zel s1 s2 s6 s13 s14 s15 k) := by
 unfold zaD zel zsT
 try conv => arg 3; simp (maxSteps := 999999) only [sx, ty, ↓reduceIte, seval, *, zip]
 refine Le.subL fun c106 h h_1 h_2 => ?_
 replace h : List.take (s13.Functions.length - s15.toNat) (List.drop s15.toNat (List.map (TFunction.e false) s13.Functions)) = List.map (TFunction.e false) c106 := by rw [h]; exact zsH ..
 try conv => arg 3; simp (maxSteps := 999999) only [sx, ty, ↓reduceIte, seval, *, zip]
 refine Le.app fun c107 h_3 h_4 => ?_
 replace h_3 : List.map (TFunction.e false) s14 ++ List.map (TFunction.e false) c106 = List.map (TFunction.e false) c107 := by rw [h_3, List.map_append] <;> rfl
 replace h_4 : s14.length + c106.length ≤ most := h_4
 repeat' (try conv => arg 3; simp (maxSteps := 999999) only [sx, ty, ↓reduceIte, seval, *, zip]); first
  | ((with_reducible refine Le.ret ?_); first | exact rfl | exact Pu.mk)
  | with_reducible refine Le.itq (fun _ => ?_) (fun _ => ?_)
noncomputable abbrev zen (s1 : ByteArray) (s2 : ByteArray) (s3 : TScope) (s6 : TScope) (s8 : ByteArray) (s12 : TFunction) (k : List Fr) : Option Res := go T (enF [.cell 6 (.many 3), .tmp 7] []) zsU k ⟨[Z, .d (D.str s1), .d (D.str s2), .box [D.sl false 5 (List.map (TBinding.e false) s3.Vars), D.sl false 4 (List.map (TFunction.e false) s3.Functions), D.sl false 2 (List.map (TRecordType.e false) s3.Types)], Z, Z, .box [D.sl true 5 (List.map (TBinding.e false) s6.Vars), D.sl true 4 (List.map (TFunction.e true) s6.Functions), D.sl true 2 (List.map (TRecordType.e true) s6.Types)], Z, .d (D.str s8), Z, Z, Z, .box [D.str s12.Name, D.sl false 1 (List.map D.str s12.Params), D.sl false 1 (List.map D.str s12.Locals), D.str s12.Label], Z, Z, Z, Z, Z, Z, Z, Z, Z, Z, Z, Z, Z, Z, Z, Z, Z, Z, Z, Z, Z, Z, Z, Z, Z, Z, Z, Z, Z, Z, Z, Z, Z, Z, Z, Z, Z, Z, Z, Z, Z, Z, Z, Z, Z, Z, Z, Z, Z, Z, Z, Z, Z, Z, Z, Z, Z, Z, Z, Z, Z, Z, Z, Z, Z, Z, Z, Z, Z, Z, Z, Z, Z, Z, Z, Z, Z, Z, Z, Z, Z, Z, Z, Z, Z, Z, Z, Z, Z, Z, Z, Z, Z, Z, Z, Z, Z, Z, Z, Z, Z, Z], []⟩
noncomputable abbrev zeo (s1 : ByteArray) (s2 : ByteArray) (s3 : TScope) (s6 : TScope) (s8 : ByteArray) (s12 : TFunction) (k : List Fr) (t : (((TScope × Int) ⊕ (TScope × Int)))) (x : Option Res) : Prop := match t with | .inl r => Pu (D.tup [D.agg [D.sl true 5 (List.map (TBinding.e false) r.1.Vars), D.sl true 4 (List.map (TFunction.e true) r.1.Functions), D.sl true 2 (List.map (TRecordType.e true) r.1.Types)], D.int .i64 r.2]) [] x | .inr r => Pu (D.tup [D.agg [D.sl false 5 (List.map (TBinding.e false) r.1.Vars), D.sl true 4 (List.map (TFunction.e false) r.1.Functions), D.sl false 2 (List.map (TRecordType.e false) r.1.Types)], D.int .i64 r.2]) [] x
theorem zgR (s1 : ByteArray) (s2 : ByteArray) (s3 : TScope) (s6 : TScope) (s8 : ByteArray) (s12 : TFunction) (k : List Fr) : Le (zeo s1 s2 s3 s6 s8 s12 k) (zbA s1 s2 s3 s6 s8 s12) (zen s1 s2 s3 s6 s8 s12 k) := by
 unfold zbA zen zsU
 try conv => arg 3; simp (maxSteps := 999999) only [sx, ty, ↓reduceIte, seval, *, zip]
 refine Le.call (zrC s3) fun r54 h _ hy => ?_
 obtain ⟨_, rfl⟩ := hy
 try conv => arg 3; simp (maxSteps := 999999) only [sx, ty, ↓reduceIte, seval, *, zip]
 refine Le.via (zgP s1 s2 s6 s8 s12 r54 ([]) 0 _) fun t h_1 _ hy => ?_
 try dsimp only [zbO] at hy; first | subst hy | obtain ⟨_, rfl⟩ := hy
 try conv => arg 3; simp (maxSteps := 999999) only [sx, ty, ↓reduceIte, seval, *, zip]
 refine Le.app fun c84 h_2 h_3 => ?_
 replace h_2 : List.map (TFunction.e false) t.1 ++ [D.agg [D.str s12.Name, D.sl false 1 (List.map D.str s12.Params), D.sl false 1 (List.map D.str s12.Locals), D.str s12.Label]] = List.map (TFunction.e false) c84 := by rw [h_2, List.map_append] <;> rfl
 replace h_3 : t.1.length + 1 ≤ most := h_3
 repeat' (try conv => arg 3; simp (maxSteps := 999999) only [sx, ty, ↓reduceIte, seval, *, zip]); first
  | (refine Le.via (zgQ _ _ _ _ _ _ _) fun _ _ _ hy => ?_; try dsimp only [zem] at hy; first | subst hy | obtain ⟨_, rfl⟩ := hy)
  | exact Le.ret hy
  | with_reducible refine Le.idx fun _ _ _ _ => ?_
  | with_reducible refine Le.itq (fun _ => ?_) (fun _ => ?_)
noncomputable abbrev zep (s1 : ByteArray) (s2 : ByteArray) (s3 : TScope) (s6 : TScope) (s8 : ByteArray) (s11 : Bool) (s12 : TFunction) (k : List Fr) : Option Res := go T (enF [.cell 6 (.many 3), .tmp 7] []) zsV k ⟨[Z, .d (D.str s1), .d (D.str s2), .box [D.sl false 5 (List.map (TBinding.e false) s3.Vars), D.sl false 4 (List.map (TFunction.e false) s3.Functions), D.sl false 2 (List.map (TRecordType.e false) s3.Types)], Z, Z, .box [D.sl true 5 (List.map (TBinding.e false) s6.Vars), D.sl true 4 (List.map (TFunction.e true) s6.Functions), D.sl true 2 (List.map (TRecordType.e true) s6.Types)], Z, .d (D.str s8), Z, Z, .d (D.bool s11), .box [D.str s12.Name, D.sl false 1 (List.map D.str s12.Params), D.sl false 1 (List.map D.str s12.Locals), D.str s12.Label], Z, Z, Z, Z, Z, Z, Z, Z, Z, Z, Z, Z, Z, Z, Z, Z, Z, Z, Z, Z, Z, Z, Z, Z, Z, Z, Z, Z, Z, Z, Z, Z, Z, Z, Z, Z, Z, Z, Z, Z, Z, Z, Z, Z, Z, Z, Z, Z, Z, Z, Z, Z, Z, Z, Z, Z, Z, Z, Z, Z, Z, Z, Z, Z, Z, Z, Z, Z, Z, Z, Z, Z, Z, Z, Z, Z, Z, Z, Z, Z, Z, Z, Z, Z, Z, Z, Z, Z, Z, Z, Z, Z, Z, Z, Z, Z, Z, Z, Z, Z, Z, Z], []⟩
noncomputable abbrev zeq (s1 : ByteArray) (s2 : ByteArray) (s3 : TScope) (s6 : TScope) (s8 : ByteArray) (s11 : Bool) (s12 : TFunction) (k : List Fr) (t : (((TScope × Int) ⊕ (TScope × Int)))) (x : Option Res) : Prop := match t with | .inl r => Pu (D.tup [D.agg [D.sl true 5 (List.map (TBinding.e false) r.1.Vars), D.sl true 4 (List.map (TFunction.e true) r.1.Functions), D.sl true 2 (List.map (TRecordType.e true) r.1.Types)], D.int .i64 r.2]) [] x | .inr r => Pu (D.tup [D.agg [D.sl false 5 (List.map (TBinding.e false) r.1.Vars), D.sl true 4 (List.map (TFunction.e false) r.1.Functions), D.sl false 2 (List.map (TRecordType.e false) r.1.Types)], D.int .i64 r.2]) [] x
theorem zgS (s1 : ByteArray) (s2 : ByteArray) (s3 : TScope) (s6 : TScope) (s8 : ByteArray) (s11 : Bool) (s12 : TFunction) (k : List Fr) : Le (zeq s1 s2 s3 s6 s8 s11 s12 k) (zaJ s1 s2 s3 s6 s8 s11 s12) (zep s1 s2 s3 s6 s8 s11 s12 k) := by
 unfold zaJ zep zsV
 repeat' (try conv => arg 3; simp (maxSteps := 999999) only [sx, ty, ↓reduceIte, seval, *, zip]); first
  | (refine Le.call (zgL _) fun _ _ _ hy => ?_; obtain ⟨_, rfl⟩ := hy)
  | (refine Le.via (zgR _ _ _ _ _ _ _) fun _ _ _ hy => ?_; try dsimp only [zeo] at hy; first | subst hy | obtain ⟨_, rfl⟩ := hy)
  | exact Le.ret hy
  | with_reducible refine Le.bool (fun _ => ?_) (fun _ => ?_)
  | ((with_reducible refine Le.ret ?_); first | exact rfl | exact Pu.mk)
noncomputable abbrev zer (s1 : ByteArray) (s2 : ByteArray) (s3 : TScope) (s6 : TScope) (k : List Fr) : Option Res := go T (enF [.cell 6 (.many 3), .tmp 7] []) zsW k ⟨[Z, .d (D.str s1), .d (D.str s2), .box [D.sl false 5 (List.map (TBinding.e false) s3.Vars), D.sl false 4 (List.map (TFunction.e false) s3.Functions), D.sl false 2 (List.map (TRecordType.e false) s3.Types)], Z, Z, .box [D.sl true 5 (List.map (TBinding.e false) s6.Vars), D.sl true 4 (List.map (TFunction.e true) s6.Functions), D.sl true 2 (List.map (TRecordType.e true) s6.Types)], Z, Z, Z, Z, Z, Z, Z, Z, Z, Z, Z, Z, Z, Z, Z, Z, Z, Z, Z, Z, Z, Z, Z, Z, Z, Z, Z, Z, Z, Z, Z, Z, Z, Z, Z, Z, Z, Z, Z, Z, Z, Z, Z, Z, Z, Z, Z, Z, Z, Z, Z, Z, Z, Z, Z, Z, Z, Z, Z, Z, Z, Z, Z, Z, Z, Z, Z, Z, Z, Z, Z, Z, Z, Z, Z, Z, Z, Z, Z, Z, Z, Z, Z, Z, Z, Z, Z, Z, Z, Z, Z, Z, Z, Z, Z, Z, Z, Z, Z, Z, Z, Z, Z, Z, Z, Z, Z, Z], []⟩
noncomputable abbrev zgT (s1 : ByteArray) (s2 : ByteArray) (s3 : TScope) (s6 : TScope) (k : List Fr) (t : (((TScope × Int) ⊕ (TScope × Int)))) (x : Option Res) : Prop := match t with | .inl r => Pu (D.tup [D.agg [D.sl true 5 (List.map (TBinding.e false) r.1.Vars), D.sl true 4 (List.map (TFunction.e true) r.1.Functions), D.sl true 2 (List.map (TRecordType.e true) r.1.Types)], D.int .i64 r.2]) [] x | .inr r => Pu (D.tup [D.agg [D.sl false 5 (List.map (TBinding.e false) r.1.Vars), D.sl true 4 (List.map (TFunction.e false) r.1.Functions), D.sl false 2 (List.map (TRecordType.e false) r.1.Types)], D.int .i64 r.2]) [] x
theorem zgU (s1 : ByteArray) (s2 : ByteArray) (s3 : TScope) (s6 : TScope) (k : List Fr) : Le (zgT s1 s2 s3 s6 k) (zba s1 s2 s3 s6) (zer s1 s2 s3 s6 k) := by
 unfold zba zer zsW
 repeat' (try conv => arg 3; simp (maxSteps := 999999) only [sx, ty, ↓reduceIte, seval, *, zip]); first
  | (refine Le.call (zjB _) fun _ _ _ hy => ?_; obtain ⟨_, rfl⟩ := hy)
  | (refine Le.via (zgS _ _ _ _ _ _ _ _) fun _ _ _ hy => ?_; try dsimp only [zeq] at hy; first | subst hy | obtain ⟨_, rfl⟩ := hy)
  | exact Le.ret hy
  | with_reducible refine Le.itq (fun _ => ?_) (fun _ => ?_)
theorem ziA (p0 : TScope) (p1 : ByteArray) (p2 : ByteArray) : Le (fun r x => match r with | .inl r => Pu (D.tup [D.agg [D.sl true 5 (List.map (TBinding.e false) r.1.Vars), D.sl true 4 (List.map (TFunction.e true) r.1.Functions), D.sl true 2 (List.map (TRecordType.e true) r.1.Types)], D.int .i64 r.2]) [] x | .inr r => Pu (D.tup [D.agg [D.sl false 5 (List.map (TBinding.e false) r.1.Vars), D.sl true 4 (List.map (TFunction.e false) r.1.Functions), D.sl false 2 (List.map (TRecordType.e false) r.1.Types)], D.int .i64 r.2]) [] x) (zcu p0 p1 p2) (zab T 13 [D.agg [D.sl false 5 (List.map (TBinding.e false) p0.Vars), D.sl false 4 (List.map (TFunction.e false) p0.Functions), D.sl false 2 (List.map (TRecordType.e false) p0.Types)], D.str p1, D.str p2] []) := by
 unfold zcu
 refine Le.enter (g := v13) rfl rfl rfl rfl ?_
 repeat' (try conv => arg 3; simp (maxSteps := 999999) only [sx, ty, ↓reduceIte, seval, *, zip, v13, zxW]); first
  | (refine Le.call (zlu _) fun _ _ _ hy => ?_; obtain ⟨_, rfl⟩ := hy)
  | exact zgU _ _ _ _ _
  | (refine Le.call (zeZ _) fun _ _ _ hy => ?_; obtain ⟨_, rfl⟩ := hy)
  | with_reducible refine Le.bool (fun _ => ?_) (fun _ => ?_)
  | ((with_reducible refine Le.ret ?_); first | exact rfl | exact Pu.mk)
  | with_reducible refine Le.itq (fun _ => ?_) (fun _ => ?_)
theorem zjd (p0 : TBinding) : Le (fun r x => Pu (D.str r) [] x) (zdK p0) (zab T 69 [D.agg [D.str p0.Name, D.int .i64 p0.Value.Kind, D.int .i64 p0.Value.Num, D.str p0.Value.Text, D.int .i64 p0.Value.Ref]] []) := by
 unfold zdK
 refine Le.enter (g := v69) rfl rfl rfl rfl ?_
 try conv => arg 3; simp (maxSteps := 999999) only [sx, ty, ↓reduceIte, seval, *, v69, zyN]
 ((with_reducible refine Le.ret ?_); first | exact rfl | exact Pu.mk)
noncomputable abbrev zbs (s0 : List TBinding) (s5 : Int) (k : List Fr) : Option Res := go T (enF [.tmp 4] []) zqA (.lp zqB :: .bl 0 :: .sq (.clr [4,5,6,7,8,9,10,11,12,13,14,15,16,17,18,19,20,21,22,23,24,25]) :: k) ⟨[.d (D.sl false 5 (List.map (TBinding.e false) s0)), .d (D.fn 69 []), Z, Z, Z, .d (D.int .i64 s5), Z, Z, Z, Z, Z, Z, Z, Z, Z, Z, Z, Z, Z, Z, Z, Z, Z, Z, Z, Z], []⟩
noncomputable abbrev zbt (s0 : List TBinding) (k : List Fr) (t : (Unit ⊕ Bool)) (x : Option Res) : Prop := match t with | .inl t => x = bk T (enF [.tmp 4] []) k ⟨[.d (D.sl false 5 (List.map (TBinding.e false) s0)), .d (D.fn 69 []), Z, Z, Z, Z, Z, Z, Z, Z, Z, Z, Z, Z, Z, Z, Z, Z, Z, Z, Z, Z, Z, Z, Z, Z], []⟩ | .inr t => Pu (D.bool t) [] x
theorem zgh (s0 : List TBinding) : ∀ (s5 : Int) (k : List Fr), Le (zbt s0 k) (zbK s0 s5) (zbs s0 s5 k) := by
 intro s5 k
 refine Le.cp (X := zbs s0 s5) (Q := zbt s0) ?_ k
 refine zbK.partial_correctness s0 (motive := fun s5 r => ∀ k : List Fr, zbt s0 k r (zbs s0 s5 k)) ?_ s5
 intro rec hrec s5
 refine Le.pc ?_
 intro k
 unfold zbs zqA
 repeat' (try conv => arg 3; simp (maxSteps := 999999) only [sx, ty, ↓reduceIte, seval, *, zyL]); first
  | (refine Le.dcall (zjd _) fun _ _ _ hy => ?_; obtain ⟨_, rfl⟩ := hy)
  | with_reducible refine Le.idx fun _ _ _ _ => ?_
  | with_reducible refine Le.bool (fun _ => ?_) (fun _ => ?_)
  | ((with_reducible refine Le.ret ?_); first | exact rfl | exact Pu.mk)
  | with_reducible refine Le.itq (fun _ => ?_) (fun _ => ?_)
  | exact fun r hr => hrec _ r hr k
theorem zhr (p0 : List TBinding) : Le (fun r x => Pu (D.bool r) [] x) (zbL p0) (zab T 68 [D.sl false 5 (List.map (TBinding.e false) p0), D.fn 69 []] []) := by
 unfold zbL
 refine Le.enter (g := v68) rfl rfl rfl rfl ?_
 repeat' (try conv => arg 3; simp (maxSteps := 999999) only [sx, ty, ↓reduceIte, seval, *, zyL, v68, zyM]); first
  | (refine Le.via (zgh _ _ _) fun t _ _ hy => ?_; rcases t with t | t <;> (try dsimp only [zbt] at hy; first | subst hy | obtain ⟨_, rfl⟩ := hy))
  | ((with_reducible refine Le.ret ?_); first | exact rfl | exact Pu.mk)
theorem zdR (p0 : TFunction) : Le (fun r x => Pu (D.str r) [] x) (zaT p0) (zab T 71 [D.agg [D.str p0.Name, D.sl false 1 (List.map D.str p0.Params), D.sl false 1 (List.map D.str p0.Locals), D.str p0.Label]] []) := by
 unfold zaT
 refine Le.enter (g := v71) rfl rfl rfl rfl ?_
 try conv => arg 3; simp (maxSteps := 999999) only [sx, ty, ↓reduceIte, seval, *, v71, zyQ]
 ((with_reducible refine Le.ret ?_); first | exact rfl | exact Pu.mk)
noncomputable abbrev zbo (s0 : List TFunction) (s5 : Int) (k : List Fr) : Option Res := go T (enF [.tmp 4] []) zqC (.lp zqD :: .bl 0 :: .sq (.clr [4,5,6,7,8,9,10,11,12,13,14,15,16,17,18,19,20,21,22,23,24,25]) :: k) ⟨[.d (D.sl false 4 (List.map (TFunction.e false) s0)), .d (D.fn 71 []), Z, Z, Z, .d (D.int .i64 s5), Z, Z, Z, Z, Z, Z, Z, Z, Z, Z, Z, Z, Z, Z, Z, Z, Z, Z, Z, Z], []⟩
noncomputable abbrev zbp (s0 : List TFunction) (k : List Fr) (t : (Unit ⊕ Bool)) (x : Option Res) : Prop := match t with | .inl t => x = bk T (enF [.tmp 4] []) k ⟨[.d (D.sl false 4 (List.map (TFunction.e false) s0)), .d (D.fn 71 []), Z, Z, Z, Z, Z, Z, Z, Z, Z, Z, Z, Z, Z, Z, Z, Z, Z, Z, Z, Z, Z, Z, Z, Z], []⟩ | .inr t => Pu (D.bool t) [] x
theorem zfO (s0 : List TFunction) : ∀ (s5 : Int) (k : List Fr), Le (zbp s0 k) (zbE s0 s5) (zbo s0 s5 k) := by
 intro s5 k
 refine Le.cp (X := zbo s0 s5) (Q := zbp s0) ?_ k
 refine zbE.partial_correctness s0 (motive := fun s5 r => ∀ k : List Fr, zbp s0 k r (zbo s0 s5 k)) ?_ s5
 intro rec hrec s5
 refine Le.pc ?_
 intro k
 unfold zbo zqC
 repeat' (try conv => arg 3; simp (maxSteps := 999999) only [sx, ty, ↓reduceIte, seval, *, zyO]); first
  | (refine Le.dcall (zdR _) fun _ _ _ hy => ?_; obtain ⟨_, rfl⟩ := hy)
  | with_reducible refine Le.idx fun _ _ _ _ => ?_
  | with_reducible refine Le.bool (fun _ => ?_) (fun _ => ?_)
  | ((with_reducible refine Le.ret ?_); first | exact rfl | exact Pu.mk)
  | with_reducible refine Le.itq (fun _ => ?_) (fun _ => ?_)
  | exact fun r hr => hrec _ r hr k
theorem zgV (p0 : List TFunction) : Le (fun r x => Pu (D.bool r) [] x) (zbB p0) (zab T 70 [D.sl false 4 (List.map (TFunction.e false) p0), D.fn 71 []] []) := by
 unfold zbB
 refine Le.enter (g := v70) rfl rfl rfl rfl ?_
 repeat' (try conv => arg 3; simp (maxSteps := 999999) only [sx, ty, ↓reduceIte, seval, *, zyO, v70, zyP]); first
  | (refine Le.via (zfO _ _ _) fun t _ _ hy => ?_; rcases t with t | t <;> (try dsimp only [zbp] at hy; first | subst hy | obtain ⟨_, rfl⟩ := hy))
  | ((with_reducible refine Le.ret ?_); first | exact rfl | exact Pu.mk)
theorem zlw (p0 : TRecordType) : Le (fun r x => Pu (D.str r) [] x) (zfq p0) (zab T 73 [D.agg [D.str p0.Name, D.sl false 1 (List.map D.str p0.Fields)]] []) := by
 unfold zfq
 refine Le.enter (g := v73) rfl rfl rfl rfl ?_
 try conv => arg 3; simp (maxSteps := 999999) only [sx, ty, ↓reduceIte, seval, *, v73, zyT]
 ((with_reducible refine Le.ret ?_); first | exact rfl | exact Pu.mk)
noncomputable abbrev zaV (s0 : List TRecordType) (s5 : Int) (k : List Fr) : Option Res := go T (enF [.tmp 4] []) zqE (.lp zqF :: .bl 0 :: .sq (.clr [4,5,6,7,8,9,10,11,12,13,14,15,16,17,18,19,20,21,22,23,24,25]) :: k) ⟨[.d (D.sl false 2 (List.map (TRecordType.e false) s0)), .d (D.fn 73 []), Z, Z, Z, .d (D.int .i64 s5), Z, Z, Z, Z, Z, Z, Z, Z, Z, Z, Z, Z, Z, Z, Z, Z, Z, Z, Z, Z], []⟩
noncomputable abbrev zaW (s0 : List TRecordType) (k : List Fr) (t : (Unit ⊕ Bool)) (x : Option Res) : Prop := match t with | .inl t => x = bk T (enF [.tmp 4] []) k ⟨[.d (D.sl false 2 (List.map (TRecordType.e false) s0)), .d (D.fn 73 []), Z, Z, Z, Z, Z, Z, Z, Z, Z, Z, Z, Z, Z, Z, Z, Z, Z, Z, Z, Z, Z, Z, Z, Z], []⟩ | .inr t => Pu (D.bool t) [] x
theorem zfm (s0 : List TRecordType) : ∀ (s5 : Int) (k : List Fr), Le (zaW s0 k) (zbm s0 s5) (zaV s0 s5 k) := by
 intro s5 k
 refine Le.cp (X := zaV s0 s5) (Q := zaW s0) ?_ k
 refine zbm.partial_correctness s0 (motive := fun s5 r => ∀ k : List Fr, zaW s0 k r (zaV s0 s5 k)) ?_ s5
 intro rec hrec s5
 refine Le.pc ?_
 intro k
 unfold zaV zqE
 repeat' (try conv => arg 3; simp (maxSteps := 999999) only [sx, ty, ↓reduceIte, seval, *, zyR]); first
  | (refine Le.dcall (zlw _) fun _ _ _ hy => ?_; obtain ⟨_, rfl⟩ := hy)
  | with_reducible refine Le.idx fun _ _ _ _ => ?_
  | with_reducible refine Le.bool (fun _ => ?_) (fun _ => ?_)
  | ((with_reducible refine Le.ret ?_); first | exact rfl | exact Pu.mk)
  | with_reducible refine Le.itq (fun _ => ?_) (fun _ => ?_)
  | exact fun r hr => hrec _ r hr k
theorem zgi (p0 : List TRecordType) : Le (fun r x => Pu (D.bool r) [] x) (zbi p0) (zab T 72 [D.sl false 2 (List.map (TRecordType.e false) p0), D.fn 73 []] []) := by
 unfold zbi
 refine Le.enter (g := v72) rfl rfl rfl rfl ?_
 repeat' (try conv => arg 3; simp (maxSteps := 999999) only [sx, ty, ↓reduceIte, seval, *, zyR, v72, zyS]); first
  | (refine Le.via (zfm _ _ _) fun t _ _ hy => ?_; rcases t with t | t <;> (try dsimp only [zaW] at hy; first | subst hy | obtain ⟨_, rfl⟩ := hy))
  | ((with_reducible refine Le.ret ?_); first | exact rfl | exact Pu.mk)
theorem zjw (p0 : Int) : Le (fun r x => Pu (D.bool r) [] x) (zeY p0) (zab T 91 [D.int .u8 p0] []) := by
 unfold zeY
 refine Le.enter (g := v91) rfl rfl rfl rfl ?_
 repeat' (try conv => arg 3; simp (maxSteps := 999999) only [sx, ty, ↓reduceIte, seval, *, v91, zzk]); first
  | ((with_reducible refine Le.ret ?_); first | exact rfl | exact Pu.mk)
  | with_reducible refine Le.itq (fun _ => ?_) (fun _ => ?_)
theorem zpg (p0 : Int) : Le (fun r x => Pu (D.bool r) [] x) (zgJ p0) (zab T 124 [D.int .u8 p0] []) := by
 unfold zgJ
 refine Le.enter (g := v124) rfl rfl rfl rfl ?_
 repeat' (try conv => arg 3; simp (maxSteps := 999999) only [sx, ty, ↓reduceIte, seval, *, v124, zvK]); first
  | ((with_reducible refine Le.ret ?_); first | exact rfl | exact Pu.mk)
  | with_reducible refine Le.itq (fun _ => ?_) (fun _ => ?_)
theorem zlx (p0 : Int) : Le (fun r x => Pu (D.bool r) [] x) (zdz p0) (zab T 93 [D.int .u8 p0] []) := by
 unfold zdz
 refine Le.enter (g := v93) rfl rfl rfl rfl ?_
 repeat' (try conv => arg 3; simp (maxSteps := 999999) only [sx, ty, ↓reduceIte, seval, *, v93, zzn]); first
  | (refine Le.call (zjw _) fun _ _ _ hy => ?_; obtain ⟨_, rfl⟩ := hy)
  | (refine Le.call (zpg _) fun _ _ _ hy => ?_; obtain ⟨_, rfl⟩ := hy)
  | with_reducible refine Le.bool (fun _ => ?_) (fun _ => ?_)
  | ((with_reducible refine Le.ret ?_); first | exact rfl | exact Pu.mk)
noncomputable abbrev zcB (s0 : List Int) (s7 : List Int) (s8 : Int) (s9 : Int) (k : List Fr) : Option Res := go T (enF [.tmp 4] []) zqR (.lp zqS :: .bl 0 :: .sq (.clr [4,6,7,8,9,10,11,12,13,14,15,16,17]) :: k) ⟨[.d (D.sl false 1 (List.map (D.int .u8) s0)), .d (D.fn 93 []), Z, Z, Z, Z, Z, .d (D.sl false 1 (List.map (D.int .u8) s7)), .d (D.int .i64 s8), .d (D.int .i64 s9), Z, Z, Z, Z, Z, Z, Z, Z], []⟩
noncomputable abbrev zcC (s0 : List Int) (s7 : List Int) (s8 : Int) (k : List Fr) (t : (Unit ⊕ Bool)) (x : Option Res) : Prop := match t with | .inl t => x = bk T (enF [.tmp 4] []) k ⟨[.d (D.sl false 1 (List.map (D.int .u8) s0)), .d (D.fn 93 []), Z, Z, Z, Z, Z, Z, Z, Z, Z, Z, Z, Z, Z, Z, Z, Z], []⟩ | .inr t => Pu (D.bool t) [] x
theorem ziB (s0 : List Int) (s7 : List Int) (s8 : Int) : ∀ (s9 : Int) (k : List Fr), Le (zcC s0 s7 s8 k) (zdq s0 s7 s8 s9) (zcB s0 s7 s8 s9 k) := by
 intro s9 k
 refine Le.cp (X := zcB s0 s7 s8 s9) (Q := zcC s0 s7 s8) ?_ k
 refine zdq.partial_correctness s0 s7 s8 (motive := fun s9 r => ∀ k : List Fr, zcC s0 s7 s8 k r (zcB s0 s7 s8 s9 k)) ?_ s9
 intro rec hrec s9
 refine Le.pc ?_
 intro k
 unfold zcB zqR
 repeat' (try conv => arg 3; simp (maxSteps := 999999) only [sx, ty, ↓reduceIte, seval, *, zzl]); first
  | (refine Le.call (zlx _) fun _ _ _ hy => ?_; obtain ⟨_, rfl⟩ := hy)
  | with_reducible refine Le.idx fun _ _ _ _ => ?_
  | with_reducible refine Le.bool (fun _ => ?_) (fun _ => ?_)
  | ((with_reducible refine Le.ret ?_); first | exact rfl | exact Pu.mk)
  | with_reducible refine Le.itq (fun _ => ?_) (fun _ => ?_)
  | exact fun r hr => hrec _ r hr k
theorem zkL (p0 : List Int) : Le (fun r x => Pu (D.bool r) [] x) (zdL p0) (zab T 92 [D.sl false 1 (List.map (D.int .u8) p0), D.fn 93 []] []) := by
 unfold zdL
 refine Le.enter (g := v92) rfl rfl rfl rfl ?_
 repeat' (try conv => arg 3; simp (maxSteps := 999999) only [sx, ty, ↓reduceIte, seval, *, zzl, v92, zzm]); first
  | (refine Le.via (ziB _ _ _ _ _) fun t _ _ hy => ?_; rcases t with t | t <;> (try dsimp only [zcC] at hy; first | subst hy | obtain ⟨_, rfl⟩ := hy))
  | ((with_reducible refine Le.ret ?_); first | exact rfl | exact Pu.mk)
theorem zdZ (p0 : ByteArray) : Le (fun r x => Pu (D.bool r) [] x) (zcz p0) (zab T 44 [D.str p0] []) := by
 unfold zcz
 refine Le.enter (g := v44) rfl rfl rfl rfl ?_
 repeat' (try conv => arg 3; simp (maxSteps := 999999) only [sx, ty, ↓reduceIte, seval, *, v44, zyv]); first
  | (refine Le.call (zjw _) fun _ _ _ hy => ?_; obtain ⟨_, rfl⟩ := hy)
  | (refine Le.call (zkL _) fun _ _ _ hy => ?_; obtain ⟨_, rfl⟩ := hy)
  | with_reducible refine Le.idxBN fun _ _ _ => ?_
  | with_reducible refine Le.bool (fun _ => ?_) (fun _ => ?_)
  | ((with_reducible refine Le.ret ?_); first | exact rfl | exact Pu.mk)
  | with_reducible refine Le.itq (fun _ => ?_) (fun _ => ?_)
theorem zlZ (p0 : Int) (p1 : Int) (p2 : Int) : Le (fun r x => Pu (D.bool r) [] x) (zhp p0 p1 p2) (zab T 138 [D.int .i64 p0, D.int .i64 p1, D.int .i64 p2] []) := by
 unfold zhp
 refine Le.enter (g := v138) rfl rfl rfl rfl ?_
 repeat' (try conv => arg 3; simp (maxSteps := 999999) only [sx, ty, ↓reduceIte, seval, *, v138, zvP]); first
  | ((with_reducible refine Le.ret ?_); first | exact rfl | exact Pu.mk)
  | with_reducible refine Le.itq (fun _ => ?_) (fun _ => ?_)
theorem zly (p0 : Int) : Le (fun r x => Pu (D.bool r) [] x) (zeg p0) (zab T 139 [D.int .i64 p0] []) := by
 unfold zeg
 refine Le.enter (g := v139) rfl rfl rfl rfl ?_
 repeat' (try conv => arg 3; simp (maxSteps := 999999) only [sx, ty, ↓reduceIte, seval, *, v139, zvQ]); first
  | (refine Le.call (zlZ _ _ _) fun _ _ _ hy => ?_; obtain ⟨_, rfl⟩ := hy)
  | ((with_reducible refine Le.ret ?_); first | exact rfl | exact Pu.mk)
noncomputable abbrev zfP (s1 : TValue) (s65 : Bool) (k : List Fr) : Option Res := go T (enF [.tmp 2] []) zoU k ⟨[Z, .box [D.int .i64 s1.Kind, D.int .i64 s1.Num, D.str s1.Text, D.int .i64 s1.Ref], Z, Z, Z, Z, Z, Z, Z, Z, Z, Z, Z, Z, Z, Z, Z, Z, Z, Z, Z, Z, Z, Z, Z, Z, Z, Z, Z, Z, Z, Z, Z, Z, Z, Z, Z, Z, Z, Z, Z, Z, Z, Z, Z, Z, Z, Z, Z, Z, Z, Z, Z, Z, Z, Z, Z, Z, Z, Z, Z, Z, Z, Z, Z, .d (D.bool s65), Z, Z, Z, Z, Z, Z, Z, Z, Z, Z, Z, Z, Z, Z], []⟩
noncomputable abbrev zfQ (s1 : TValue) (s65 : Bool) (k : List Fr) (t : (Bool ⊕ Bool)) (x : Option Res) : Prop := match t with | .inl t => x = bk T (enF [.tmp 2] []) k ⟨[Z, .box [D.int .i64 s1.Kind, D.int .i64 s1.Num, D.str s1.Text, D.int .i64 s1.Ref], Z, Z, Z, Z, Z, Z, Z, Z, Z, Z, Z, Z, Z, Z, Z, Z, Z, Z, Z, Z, Z, Z, Z, Z, Z, Z, Z, Z, Z, Z, Z, Z, Z, Z, Z, Z, Z, Z, Z, Z, Z, Z, Z, Z, Z, Z, Z, Z, Z, Z, Z, Z, Z, Z, Z, Z, Z, Z, Z, Z, Z, Z, Z, .d (D.bool t), Z, Z, Z, Z, Z, Z, Z, Z, Z, Z, Z, Z, Z, Z], []⟩ | .inr t => Pu (D.bool t) [] x
theorem zje (s1 : TValue) (s65 : Bool) (k : List Fr) : Le (zfQ s1 s65 k) (zcH s1 s65) (zfP s1 s65 k) := by
 unfold zcH zfP zoU
 repeat' (try conv => arg 3; simp (maxSteps := 999999) only [sx, ty, ↓reduceIte, seval, *]); first
  | (refine Le.call (zdZ _) fun _ _ _ hy => ?_; obtain ⟨_, rfl⟩ := hy)
  | with_reducible refine Le.bool (fun _ => ?_) (fun _ => ?_)
  | ((with_reducible refine Le.ret ?_); first | exact rfl | exact Pu.mk)
  | with_reducible refine Le.itq (fun _ => ?_) (fun _ => ?_)
noncomputable abbrev zfR (s1 : TValue) (s4 : Int) (s49 : Bool) (k : List Fr) : Option Res := go T (enF [.tmp 2] []) zoV k ⟨[Z, .box [D.int .i64 s1.Kind, D.int .i64 s1.Num, D.str s1.Text, D.int .i64 s1.Ref], Z, Z, .d (D.int .i64 s4), Z, Z, Z, Z, Z, Z, Z, Z, Z, Z, Z, Z, Z, Z, Z, Z, Z, Z, Z, Z, Z, Z, Z, Z, Z, Z, Z, Z, Z, Z, Z, Z, Z, Z, Z, Z, Z, Z, Z, Z, Z, Z, Z, Z, .d (D.bool s49), Z, Z, Z, Z, Z, Z, Z, Z, Z, Z, Z, Z, Z, Z, Z, Z, Z, Z, Z, Z, Z, Z, Z, Z, Z, Z, Z, Z, Z, Z], []⟩
noncomputable abbrev zfS (s1 : TValue) (s4 : Int) (s49 : Bool) (k : List Fr) (t : (Unit ⊕ Bool)) (x : Option Res) : Prop := match t with | .inl t => x = bk T (enF [.tmp 2] []) k ⟨[Z, .box [D.int .i64 s1.Kind, D.int .i64 s1.Num, D.str s1.Text, D.int .i64 s1.Ref], Z, Z, Z, Z, Z, Z, Z, Z, Z, Z, Z, Z, Z, Z, Z, Z, Z, Z, Z, Z, Z, Z, Z, Z, Z, Z, Z, Z, Z, Z, Z, Z, Z, Z, Z, Z, Z, Z, Z, Z, Z, Z, Z, Z, Z, Z, Z, Z, Z, Z, Z, Z, Z, Z, Z, Z, Z, Z, Z, Z, Z, Z, Z, Z, Z, Z, Z, Z, Z, Z, Z, Z, Z, Z, Z, Z, Z, Z], []⟩ | .inr t => Pu (D.bool t) [] x
theorem zjf (s1 : TValue) (s4 : Int) (s49 : Bool) (k : List Fr) : Le (zfS s1 s4 s49 k) (zcf s1 s4 s49) (zfR s1 s4 s49 k) := by
 unfold zcf zfR zoV
 repeat' (try conv => arg 3; simp (maxSteps := 999999) only [sx, ty, ↓reduceIte, seval, *]); first
  | (refine Le.call (zly _) fun _ _ _ hy => ?_; obtain ⟨_, rfl⟩ := hy)
  | (refine Le.via (zje _ _ _) fun t _ _ hy => ?_; rcases t with t | t <;> (try dsimp only [zfQ] at hy; first | subst hy | obtain ⟨_, rfl⟩ := hy))
  | with_reducible refine Le.bool (fun _ => ?_) (fun _ => ?_)
  | ((with_reducible refine Le.ret ?_); first | exact rfl | exact Pu.mk)
  | with_reducible refine Le.itq (fun _ => ?_) (fun _ => ?_)
theorem zlz (p0 : TValue) : Le (fun r x => Pu (D.bool r) [] x) (zeh p0) (zab T 110 [D.agg [D.int .i64 p0.Kind, D.int .i64 p0.Num, D.str p0.Text, D.int .i64 p0.Ref]] []) := by
 unfold zeh
 refine Le.enter (g := v110) rfl rfl rfl rfl ?_
 repeat' (try conv => arg 3; simp (maxSteps := 999999) only [sx, ty, ↓reduceIte, seval, *, v110, zvw]); first
  | (refine Le.call (zlZ _ _ _) fun _ _ _ hy => ?_; obtain ⟨_, rfl⟩ := hy)
  | (refine Le.via (zjf _ _ _ _) fun t _ _ hy => ?_; rcases t with t | t <;> (try dsimp only [zfS] at hy; first | subst hy | obtain ⟨_, rfl⟩ := hy))
  | ((with_reducible refine Le.ret ?_); first | exact rfl | exact Pu.mk)
  | with_reducible refine Le.itq (fun _ => ?_) (fun _ => ?_)
theorem zrD (p0 : ByteArray) : Le (fun r x => Pu (D.agg [D.int .i64 r.Kind, D.int .i64 r.Num, D.str r.Text, D.int .i64 r.Ref]) [] x) (zmR p0) (zab T 154 [D.str p0] []) := by
 unfold zmR
 refine Le.enter (g := v154) rfl rfl rfl rfl ?_
 try conv => arg 3; simp (maxSteps := 999999) only [sx, ty, ↓reduceIte, seval, *, v154, zvU]
 ((with_reducible refine Le.ret ?_); first | exact rfl | exact Pu.mk)
theorem zuF : Le (fun r x => Pu (D.agg [D.int .i64 r.Kind, D.int .i64 r.Num, D.str r.Text, D.int .i64 r.Ref]) [] x) (ztA) (zab T 140 [] []) := by
 unfold ztA
 refine Le.enter (g := v140) rfl rfl rfl rfl ?_
 repeat' (try conv => arg 3; simp (maxSteps := 999999) only [sx, ty, ↓reduceIte, seval, *, v140, zvR]); first
  | (refine Le.call (zrD _) fun _ _ _ hy => ?_; obtain ⟨_, rfl⟩ := hy)
  | ((with_reducible refine Le.ret ?_); first | exact rfl | exact Pu.mk)
theorem zrE (p0 : TValue) : Le (fun r x => Pu (D.bool r) [] x) (zjO p0) (zab T 111 [D.agg [D.int .i64 p0.Kind, D.int .i64 p0.Num, D.str p0.Text, D.int .i64 p0.Ref]] []) := by
 unfold zjO
 refine Le.enter (g := v111) rfl rfl rfl rfl ?_
 repeat' (try conv => arg 3; simp (maxSteps := 999999) only [sx, ty, ↓reduceIte, seval, *, v111, zvx]); first
  | (refine Le.dcall (zuF) fun _ _ _ hy => ?_; obtain ⟨_, rfl⟩ := hy)
  | ((with_reducible refine Le.ret ?_); first | exact rfl | exact Pu.mk)
theorem zhR (p0 : TBinding) : Le (fun r x => Pu (D.bool r) [] x) (zbv p0) (zab T 75 [D.agg [D.str p0.Name, D.int .i64 p0.Value.Kind, D.int .i64 p0.Value.Num, D.str p0.Value.Text, D.int .i64 p0.Value.Ref]] []) := by
 unfold zbv
 refine Le.enter (g := v75) rfl rfl rfl rfl ?_
 repeat' (try conv => arg 3; simp (maxSteps := 999999) only [sx, ty, ↓reduceIte, seval, *, v75, zyW]); first
  | (refine Le.call (zdZ _) fun _ _ _ hy => ?_; obtain ⟨_, rfl⟩ := hy)
  | (refine Le.call (zlz _) fun _ _ _ hy => ?_; obtain ⟨_, rfl⟩ := hy)
  | (refine Le.call (zrE _) fun _ _ _ hy => ?_; obtain ⟨_, rfl⟩ := hy)
  | with_reducible refine Le.bool (fun _ => ?_) (fun _ => ?_)
  | ((with_reducible refine Le.ret ?_); first | exact rfl | exact Pu.mk)
noncomputable abbrev zbP (s0 : List TBinding) (s7 : List TBinding) (s8 : Int) (s9 : Int) (k : List Fr) : Option Res := go T (enF [.tmp 4] []) zqG (.lp zqH :: .bl 0 :: .sq (.clr [4,6,7,8,9,10,11,12,13,14,15,16,17]) :: k) ⟨[.d (D.sl false 5 (List.map (TBinding.e false) s0)), .d (D.fn 75 []), Z, Z, Z, Z, Z, .d (D.sl false 5 (List.map (TBinding.e false) s7)), .d (D.int .i64 s8), .d (D.int .i64 s9), Z, Z, Z, Z, Z, Z, Z, Z], []⟩
noncomputable abbrev zbQ (s0 : List TBinding) (s7 : List TBinding) (s8 : Int) (k : List Fr) (t : (Unit ⊕ Bool)) (x : Option Res) : Prop := match t with | .inl t => x = bk T (enF [.tmp 4] []) k ⟨[.d (D.sl false 5 (List.map (TBinding.e false) s0)), .d (D.fn 75 []), Z, Z, Z, Z, Z, Z, Z, Z, Z, Z, Z, Z, Z, Z, Z, Z], []⟩ | .inr t => Pu (D.bool t) [] x
theorem zgW (s0 : List TBinding) (s7 : List TBinding) (s8 : Int) : ∀ (s9 : Int) (k : List Fr), Le (zbQ s0 s7 s8 k) (zcm s0 s7 s8 s9) (zbP s0 s7 s8 s9 k) := by
 intro s9 k
 refine Le.cp (X := zbP s0 s7 s8 s9) (Q := zbQ s0 s7 s8) ?_ k
 refine zcm.partial_correctness s0 s7 s8 (motive := fun s9 r => ∀ k : List Fr, zbQ s0 s7 s8 k r (zbP s0 s7 s8 s9 k)) ?_ s9
 intro rec hrec s9
 refine Le.pc ?_
 intro k
 unfold zbP zqG
 repeat' (try conv => arg 3; simp (maxSteps := 999999) only [sx, ty, ↓reduceIte, seval, *, zyU]); first
  | (refine Le.call (zhR _) fun _ _ _ hy => ?_; obtain ⟨_, rfl⟩ := hy)
  | with_reducible refine Le.idx fun _ _ _ _ => ?_
  | with_reducible refine Le.bool (fun _ => ?_) (fun _ => ?_)
  | ((with_reducible refine Le.ret ?_); first | exact rfl | exact Pu.mk)
  | with_reducible refine Le.itq (fun _ => ?_) (fun _ => ?_)
  | exact fun r hr => hrec _ r hr k
theorem ziC (p0 : List TBinding) : Le (fun r x => Pu (D.bool r) [] x) (zcv p0) (zab T 74 [D.sl false 5 (List.map (TBinding.e false) p0), D.fn 75 []] []) := by
 unfold zcv
 refine Le.enter (g := v74) rfl rfl rfl rfl ?_
 repeat' (try conv => arg 3; simp (maxSteps := 999999) only [sx, ty, ↓reduceIte, seval, *, zyU, v74, zyV]); first
  | (refine Le.via (zgW _ _ _ _ _) fun t _ _ hy => ?_; rcases t with t | t <;> (try dsimp only [zbQ] at hy; first | subst hy | obtain ⟨_, rfl⟩ := hy))
  | ((with_reducible refine Le.ret ?_); first | exact rfl | exact Pu.mk)
theorem zdU (sto : List (List D)) : zab T 141 [.nils 1, .int .i64 0] sto = some (.nils 1, [], sto) := by
 rw [zae T (g := v141) rfl rfl rfl _ _ rfl]
 simp (maxSteps := 9999999) (disch := omega) only [vx, px, ty, ↓reduceIte, seval, fx, vxd, Nat.reduceBNe, most, ifT, ifF, v141, ztw, Int.reduceToNat, Int.toNat_zero, zdC.eq_3]
theorem zdV (n : Int) (sto : List (List D)) (h : 0 < n) (h2 : n ≤ 2147483648) : zab T 141 [.nils 1, .int .i64 n] sto = some (.sl true 1 [], [], sto) := by
 rw [zae T (g := v141) rfl rfl rfl _ _ rfl]
 simp (maxSteps := 9999999) (disch := omega) only [vx, px, ty, ↓reduceIte, seval, fx, vxd, Nat.reduceBNe, most, ifT, ifF, v141, ztw, Int.reduceToNat, Int.toNat_zero, zdC.eq_3, zrr, Int.sub_zero]
theorem zew (a b : List ByteArray) (sto : List (List D)) (h : a.length + b.length ≤ 2147483648) : zab T 112 [.sl false 1 [.sl false 1 (a.map D.str), .sl false 1 (b.map D.str)]] sto = some (.sl true 1 ((a ++ b).map D.str), [], sto) := by
 by_cases h0 : a.length + b.length = 0
 ·obtain rfl : a = [] := List.length_eq_zero_iff.1 (by omega)
  obtain rfl : b = [] := List.length_eq_zero_iff.1 (by omega)
  have e0 : ((0 : Nat) : Int) + ((0 : Nat) : Int) = 0 := rfl
  rw [zae T (g := v112) rfl rfl rfl _ _ rfl]
  simp (maxSteps := 9999999) (disch := omega) only [vx, px, ty, ↓reduceIte, seval, fx, vxd, Nat.reduceBNe, most, ifT, ifF, v112, ztt, zvy, zmC, zvz, zmD, List.length_map, zdU, Int.reduceToNat, Int.toNat_zero, zdC.eq_3, Int.add_zero, Int.zero_add, Int.reduceAdd, e0]
 ·rw [List.map_append]
  have e1 := fun sto => zdV ((a.length : Int) + (b.length : Int)) sto (by omega) (by omega)
  rw [zae T (g := v112) rfl rfl rfl _ _ rfl]
  simp (maxSteps := 9999999) (disch := omega) only [vx, px, ty, ↓reduceIte, seval, fx, vxd, Nat.reduceBNe, most, ifT, ifF, v112, ztt, zvy, zmC, zvz, zmD, List.length_map, e1, Int.reduceToNat, Int.reduceAdd, Int.zero_add, Int.toNat_zero, zdC.eq_3]
theorem zex (a b : List ByteArray) : Le (fun r x => Pu (D.sl true 1 (List.map D.str r)) [] x) (zaQ a b) (zab T 112 [D.sl false 1 [D.sl false 1 (List.map D.str a), D.sl false 1 (List.map D.str b)]] []) := by
 unfold zaQ
 refine Le.chk fun h => Le.ret ?_
 exact ⟨_, zew a b [] h⟩
noncomputable abbrev zbV (s0 : List ByteArray) (s7 : List ByteArray) (s8 : Int) (s9 : Int) (k : List Fr) : Option Res := go T (enF [.tmp 4] []) zmE (.lp zmF :: .bl 0 :: .sq (.clr [4,6,7,8,9,10,11,12,13,14,15,16,17]) :: k) ⟨[.d (D.sl false 1 (List.map D.str s0)), .d (D.fn 44 []), Z, Z, Z, Z, Z, .d (D.sl false 1 (List.map D.str s7)), .d (D.int .i64 s8), .d (D.int .i64 s9), Z, Z, Z, Z, Z, Z, Z, Z], []⟩
noncomputable abbrev zbW (s0 : List ByteArray) (s7 : List ByteArray) (s8 : Int) (k : List Fr) (t : (Unit ⊕ Bool)) (x : Option Res) : Prop := match t with | .inl t => x = bk T (enF [.tmp 4] []) k ⟨[.d (D.sl false 1 (List.map D.str s0)), .d (D.fn 44 []), Z, Z, Z, Z, Z, Z, Z, Z, Z, Z, Z, Z, Z, Z, Z, Z], []⟩ | .inr t => Pu (D.bool t) [] x
theorem zhs (s0 : List ByteArray) (s7 : List ByteArray) (s8 : Int) : ∀ (s9 : Int) (k : List Fr), Le (zbW s0 s7 s8 k) (zcA s0 s7 s8 s9) (zbV s0 s7 s8 s9 k) := by
 intro s9 k
 refine Le.cp (X := zbV s0 s7 s8 s9) (Q := zbW s0 s7 s8) ?_ k
 refine zcA.partial_correctness s0 s7 s8 (motive := fun s9 r => ∀ k : List Fr, zbW s0 s7 s8 k r (zbV s0 s7 s8 s9 k)) ?_ s9
 intro rec hrec s9
 refine Le.pc ?_
 intro k
 unfold zbV zmE
 repeat' (try conv => arg 3; simp (maxSteps := 999999) only [sx, ty, ↓reduceIte, seval, *, zvA]); first
  | (refine Le.call (zdZ _) fun _ _ _ hy => ?_; obtain ⟨_, rfl⟩ := hy)
  | with_reducible refine Le.idx fun _ _ _ _ => ?_
  | with_reducible refine Le.bool (fun _ => ?_) (fun _ => ?_)
  | ((with_reducible refine Le.ret ?_); first | exact rfl | exact Pu.mk)
  | with_reducible refine Le.itq (fun _ => ?_) (fun _ => ?_)
  | exact fun r hr => hrec _ r hr k
theorem zea (p0 : List ByteArray) : Le (fun r x => Pu (D.bool r) [] x) (zaG p0) (zab T 113 [D.sl false 1 (List.map D.str p0), D.fn 44 []] []) := by
 unfold zaG
 refine Le.enter (g := v113) rfl rfl rfl rfl ?_
 repeat' (try conv => arg 3; simp (maxSteps := 999999) only [sx, ty, ↓reduceIte, seval, *, zvA, v113, zvB]); first
  | (refine Le.via (zhs _ _ _ _ _) fun t _ _ hy => ?_; rcases t with t | t <;> (try dsimp only [zbW] at hy; first | subst hy | obtain ⟨_, rfl⟩ := hy))
  | ((with_reducible refine Le.ret ?_); first | exact rfl | exact Pu.mk)
theorem zeP (xs : List ByteArray) (h : xs.length ≤ 2147483648) : zab T 81 [.sl false 1 (xs.map D.str)] [] = some (.sl true 1 (xs.map D.str), [], []) := by
 cases xs with
 | nil =>
  rw [zae T (g := v81) rfl rfl rfl _ _ rfl]
  simp (maxSteps := 9999999) (disch := omega) only [vx, px, ty, ↓reduceIte, seval, fx, vxd, Nat.reduceBNe, most, ifT, ifF, v81, zwM]
 | cons x xs =>
  rw [List.length_cons] at h
  rw [zae T (g := v81) rfl rfl rfl _ _ rfl]
  simp (maxSteps := 9999999) (disch := omega) only [vx, px, ty, ↓reduceIte, seval, fx, vxd, Nat.reduceBNe, most, ifT, ifF, v81, zwM]
theorem zaB (p0 : List ByteArray) : Le (fun r x => Pu (D.sl true 1 (List.map D.str r)) [] x) (zad p0) (zab T 81 [D.sl false 1 (List.map D.str p0)] []) := by
 unfold zad
 refine Le.chk fun h => Le.ret ?_
 exact ⟨_, zeP p0 h⟩
theorem zfg (p0 : List ByteArray) : Le (fun r x => Pu (D.tup []) [D.sl true 1 (List.map D.str r)] x) (zbf p0) (zab T 142 [D.sl true 1 (List.map D.str p0)] []) := by
 unfold zbf
 refine Le.chk fun h => Le.ret ?_
 exact ⟨_, by rw [zfB (g := zru) T rfl, zoR p0 h]; rfl⟩
theorem zes (p0 : List ByteArray) : Le (fun r x => Pu (D.sl true 1 (List.map D.str r)) [] x) (zaK p0) (zab T 143 [D.sl true 1 (List.map D.str p0)] []) := by
 unfold zaK
 refine Le.chk fun h => Le.ret ?_
 exact ⟨_, by rw [zfB (g := zhn) T rfl, zlj p0 h]; rfl⟩
theorem zgX (p0 : List ByteArray) : Le (fun r x => Pu (D.sl true 1 (List.map D.str r)) [] x) (zcR p0) (zab T 114 [D.sl true 1 (List.map D.str p0)] []) := by
 unfold zcR
 refine Le.enter (g := v114) rfl rfl rfl rfl ?_
 repeat' (try conv => arg 3; simp (maxSteps := 999999) only [sx, ty, ↓reduceIte, seval, *, v114, zvC]); first
  | (refine Le.call (zfg _) fun _ _ _ hy => ?_; obtain ⟨_, rfl⟩ := hy)
  | (refine Le.call (zes _) fun _ _ _ hy => ?_; obtain ⟨_, rfl⟩ := hy)
  | ((with_reducible refine Le.ret ?_); first | exact rfl | exact Pu.mk)
noncomputable abbrev zdS (s1 : TFunction) (s3 : List ByteArray) (s4 : Bool) (k : List Fr) : Option Res := go T (enF [.tmp 2] []) ztn k ⟨[Z, .box [D.str s1.Name, D.sl false 1 (List.map D.str s1.Params), D.sl false 1 (List.map D.str s1.Locals), D.str s1.Label], Z, .d (D.sl true 1 (List.map D.str s3)), .d (D.bool s4), Z, Z, Z, Z, Z, Z, Z, Z, Z, Z, Z, Z, Z, Z, Z, Z, Z, Z, Z, Z, Z, Z, Z, Z, Z, Z, Z, Z, Z, Z, Z, Z, Z, Z, Z, Z, Z, Z, Z, Z], []⟩
noncomputable abbrev zgj (s1 : TFunction) (s3 : List ByteArray) (s4 : Bool) (k : List Fr) (t : Bool) (x : Option Res) : Prop := Pu (D.bool t) [] x
theorem zgk (s1 : TFunction) (s3 : List ByteArray) (s4 : Bool) (k : List Fr) : Le (zgj s1 s3 s4 k) (zbj s1 s3 s4) (zdS s1 s3 s4 k) := by
 unfold zbj zdS ztn
 repeat' (try conv => arg 3; simp (maxSteps := 999999) only [sx, ty, ↓reduceIte, seval, *]); first
  | (refine Le.call (zdZ _) fun _ _ _ hy => ?_; obtain ⟨_, rfl⟩ := hy)
  | (refine Le.call (zea _) fun _ _ _ hy => ?_; obtain ⟨_, rfl⟩ := hy)
  | (refine Le.call (zaB _) fun _ _ _ hy => ?_; obtain ⟨_, rfl⟩ := hy)
  | (refine Le.call (zgX _) fun _ _ _ hy => ?_; obtain ⟨_, rfl⟩ := hy)
  | with_reducible refine Le.bool (fun _ => ?_) (fun _ => ?_)
  | ((with_reducible refine Le.ret ?_); first | exact rfl | exact Pu.mk)
theorem zez (p0 : TFunction) : Le (fun r x => Pu (D.bool r) [] x) (zaR p0) (zab T 77 [D.agg [D.str p0.Name, D.sl false 1 (List.map D.str p0.Params), D.sl false 1 (List.map D.str p0.Locals), D.str p0.Label]] []) := by
 unfold zaR
 refine Le.enter (g := v77) rfl rfl rfl rfl ?_
 repeat' (try conv => arg 3; simp (maxSteps := 999999) only [sx, ty, ↓reduceIte, seval, *, v77, zyZ]); first
  | (refine Le.call (zex _ _) fun _ _ _ hy => ?_; obtain ⟨_, rfl⟩ := hy)
  | exact zgk _ _ _ _
  | ((with_reducible refine Le.ret ?_); first | exact rfl | exact Pu.mk)
  | with_reducible refine Le.itq (fun _ => ?_) (fun _ => ?_)
noncomputable abbrev zbG (s0 : List TFunction) (s7 : List TFunction) (s8 : Int) (s9 : Int) (k : List Fr) : Option Res := go T (enF [.tmp 4] []) zqI (.lp zqJ :: .bl 0 :: .sq (.clr [4,6,7,8,9,10,11,12,13,14,15,16,17]) :: k) ⟨[.d (D.sl false 4 (List.map (TFunction.e false) s0)), .d (D.fn 77 []), Z, Z, Z, Z, Z, .d (D.sl false 4 (List.map (TFunction.e false) s7)), .d (D.int .i64 s8), .d (D.int .i64 s9), Z, Z, Z, Z, Z, Z, Z, Z], []⟩
noncomputable abbrev zbH (s0 : List TFunction) (s7 : List TFunction) (s8 : Int) (k : List Fr) (t : (Unit ⊕ Bool)) (x : Option Res) : Prop := match t with | .inl t => x = bk T (enF [.tmp 4] []) k ⟨[.d (D.sl false 4 (List.map (TFunction.e false) s0)), .d (D.fn 77 []), Z, Z, Z, Z, Z, Z, Z, Z, Z, Z, Z, Z, Z, Z, Z, Z], []⟩ | .inr t => Pu (D.bool t) [] x
theorem zgq (s0 : List TFunction) (s7 : List TFunction) (s8 : Int) : ∀ (s9 : Int) (k : List Fr), Le (zbH s0 s7 s8 k) (zbU s0 s7 s8 s9) (zbG s0 s7 s8 s9 k) := by
 intro s9 k
 refine Le.cp (X := zbG s0 s7 s8 s9) (Q := zbH s0 s7 s8) ?_ k
 refine zbU.partial_correctness s0 s7 s8 (motive := fun s9 r => ∀ k : List Fr, zbH s0 s7 s8 k r (zbG s0 s7 s8 s9 k)) ?_ s9
 intro rec hrec s9
 refine Le.pc ?_
 intro k
 unfold zbG zqI
 repeat' (try conv => arg 3; simp (maxSteps := 999999) only [sx, ty, ↓reduceIte, seval, *, zyX]); first
  | (refine Le.call (zez _) fun _ _ _ hy => ?_; obtain ⟨_, rfl⟩ := hy)
  | with_reducible refine Le.idx fun _ _ _ _ => ?_
  | with_reducible refine Le.bool (fun _ => ?_) (fun _ => ?_)
  | ((with_reducible refine Le.ret ?_); first | exact rfl | exact Pu.mk)
  | with_reducible refine Le.itq (fun _ => ?_) (fun _ => ?_)
  | exact fun r hr => hrec _ r hr k
theorem zhS (p0 : List TFunction) : Le (fun r x => Pu (D.bool r) [] x) (zcg p0) (zab T 76 [D.sl false 4 (List.map (TFunction.e false) p0), D.fn 77 []] []) := by
 unfold zcg
 refine Le.enter (g := v76) rfl rfl rfl rfl ?_
 repeat' (try conv => arg 3; simp (maxSteps := 999999) only [sx, ty, ↓reduceIte, seval, *, zyX, v76, zyY]); first
  | (refine Le.via (zgq _ _ _ _ _) fun t _ _ hy => ?_; rcases t with t | t <;> (try dsimp only [zbH] at hy; first | subst hy | obtain ⟨_, rfl⟩ := hy))
  | ((with_reducible refine Le.ret ?_); first | exact rfl | exact Pu.mk)
noncomputable abbrev zgp (s0 : List ByteArray) (k : List Fr) : Option Res := go T (enF [.tmp 2] []) zoY k ⟨[.d (D.sl false 1 (List.map D.str s0)), Z, Z, Z, Z, Z, Z, Z, Z, Z, Z, Z, Z, Z, Z, Z, Z, Z, Z, Z, Z, Z, Z], []⟩
noncomputable abbrev zjC (s0 : List ByteArray) (k : List Fr) (t : Bool) (x : Option Res) : Prop := Pu (D.bool t) [] x
theorem zjD (s0 : List ByteArray) (k : List Fr) : Le (zjC s0 k) (zeb s0) (zgp s0 k) := by
 unfold zeb zgp zoY
 repeat' (try conv => arg 3; simp (maxSteps := 999999) only [sx, ty, ↓reduceIte, seval, *]); first
  | (refine Le.call (zaB _) fun _ _ _ hy => ?_; obtain ⟨_, rfl⟩ := hy)
  | (refine Le.call (zgX _) fun _ _ _ hy => ?_; obtain ⟨_, rfl⟩ := hy)
  | ((with_reducible refine Le.ret ?_); first | exact rfl | exact Pu.mk)
theorem zmU (p0 : List ByteArray) : Le (fun r x => Pu (D.bool r) [] x) (zgg p0) (zab T 115 [D.sl false 1 (List.map D.str p0)] []) := by
 unfold zgg
 refine Le.enter (g := v115) rfl rfl rfl rfl ?_
 repeat' (try conv => arg 3; simp (maxSteps := 999999) only [sx, ty, ↓reduceIte, seval, *, v115, zvD]); first
  | (refine Le.call (zea _) fun _ _ _ hy => ?_; obtain ⟨_, rfl⟩ := hy)
  | exact zjD _ _
  | ((with_reducible refine Le.ret ?_); first | exact rfl | exact Pu.mk)
  | with_reducible refine Le.bool (fun _ => ?_) (fun _ => ?_)
  | with_reducible refine Le.itq (fun _ => ?_) (fun _ => ?_)
theorem zgr (p0 : TRecordType) : Le (fun r x => Pu (D.bool r) [] x) (zaS p0) (zab T 79 [D.agg [D.str p0.Name, D.sl false 1 (List.map D.str p0.Fields)]] []) := by
 unfold zaS
 refine Le.enter (g := v79) rfl rfl rfl rfl ?_
 repeat' (try conv => arg 3; simp (maxSteps := 999999) only [sx, ty, ↓reduceIte, seval, *, v79, zzc]); first
  | (refine Le.call (zdZ _) fun _ _ _ hy => ?_; obtain ⟨_, rfl⟩ := hy)
  | (refine Le.call (zmU _) fun _ _ _ hy => ?_; obtain ⟨_, rfl⟩ := hy)
  | with_reducible refine Le.bool (fun _ => ?_) (fun _ => ?_)
  | ((with_reducible refine Le.ret ?_); first | exact rfl | exact Pu.mk)
noncomputable abbrev zbq (s0 : List TRecordType) (s7 : List TRecordType) (s8 : Int) (s9 : Int) (k : List Fr) : Option Res := go T (enF [.tmp 4] []) zqK (.lp zqL :: .bl 0 :: .sq (.clr [4,6,7,8,9,10,11,12,13,14,15,16,17]) :: k) ⟨[.d (D.sl false 2 (List.map (TRecordType.e false) s0)), .d (D.fn 79 []), Z, Z, Z, Z, Z, .d (D.sl false 2 (List.map (TRecordType.e false) s7)), .d (D.int .i64 s8), .d (D.int .i64 s9), Z, Z, Z, Z, Z, Z, Z, Z], []⟩
noncomputable abbrev zbr (s0 : List TRecordType) (s7 : List TRecordType) (s8 : Int) (k : List Fr) (t : (Unit ⊕ Bool)) (x : Option Res) : Prop := match t with | .inl t => x = bk T (enF [.tmp 4] []) k ⟨[.d (D.sl false 2 (List.map (TRecordType.e false) s0)), .d (D.fn 79 []), Z, Z, Z, Z, Z, Z, Z, Z, Z, Z, Z, Z, Z, Z, Z, Z], []⟩ | .inr t => Pu (D.bool t) [] x
theorem zfT (s0 : List TRecordType) (s7 : List TRecordType) (s8 : Int) : ∀ (s9 : Int) (k : List Fr), Le (zbr s0 s7 s8 k) (zbF s0 s7 s8 s9) (zbq s0 s7 s8 s9 k) := by
 intro s9 k
 refine Le.cp (X := zbq s0 s7 s8 s9) (Q := zbr s0 s7 s8) ?_ k
 refine zbF.partial_correctness s0 s7 s8 (motive := fun s9 r => ∀ k : List Fr, zbr s0 s7 s8 k r (zbq s0 s7 s8 s9 k)) ?_ s9
 intro rec hrec s9
 refine Le.pc ?_
 intro k
 unfold zbq zqK
 repeat' (try conv => arg 3; simp (maxSteps := 999999) only [sx, ty, ↓reduceIte, seval, *, zza]); first
  | (refine Le.call (zgr _) fun _ _ _ hy => ?_; obtain ⟨_, rfl⟩ := hy)
  | with_reducible refine Le.idx fun _ _ _ _ => ?_
  | with_reducible refine Le.bool (fun _ => ?_) (fun _ => ?_)
  | ((with_reducible refine Le.ret ?_); first | exact rfl | exact Pu.mk)
  | with_reducible refine Le.itq (fun _ => ?_) (fun _ => ?_)
  | exact fun r hr => hrec _ r hr k
theorem zgY (p0 : List TRecordType) : Le (fun r x => Pu (D.bool r) [] x) (zbC p0) (zab T 78 [D.sl false 2 (List.map (TRecordType.e false) p0), D.fn 79 []] []) := by
 unfold zbC
 refine Le.enter (g := v78) rfl rfl rfl rfl ?_
 repeat' (try conv => arg 3; simp (maxSteps := 999999) only [sx, ty, ↓reduceIte, seval, *, zza, v78, zzb]); first
  | (refine Le.via (zfT _ _ _ _ _) fun t _ _ hy => ?_; rcases t with t | t <;> (try dsimp only [zbr] at hy; first | subst hy | obtain ⟨_, rfl⟩ := hy))
  | ((with_reducible refine Le.ret ?_); first | exact rfl | exact Pu.mk)
noncomputable abbrev zfU (s1 : TScope) (s3 : Bool) (k : List Fr) : Option Res := go T (enF [.tmp 2] []) zte k ⟨[Z, .box [D.sl false 5 (List.map (TBinding.e false) s1.Vars), D.sl false 4 (List.map (TFunction.e false) s1.Functions), D.sl false 2 (List.map (TRecordType.e false) s1.Types)], Z, .d (D.bool s3), Z, Z, Z, Z, Z, Z, Z, Z, Z, Z, Z, Z, Z, Z, Z, Z, Z, Z, Z, Z, Z, Z, Z, Z, Z, Z, Z, Z, Z, Z, Z, Z, Z, Z, Z, Z, Z, Z, Z, Z, Z, Z, Z, Z, Z], []⟩
noncomputable abbrev zfV (s1 : TScope) (s3 : Bool) (k : List Fr) (t : Bool) (x : Option Res) : Prop := Pu (D.bool t) [] x
theorem zjg (s1 : TScope) (s3 : Bool) (k : List Fr) : Le (zfV s1 s3 k) (zch s1 s3) (zfU s1 s3 k) := by
 unfold zch zfU zte
 repeat' (try conv => arg 3; simp (maxSteps := 999999) only [sx, ty, ↓reduceIte, seval, *]); first
  | (refine Le.call (ziC _) fun _ _ _ hy => ?_; obtain ⟨_, rfl⟩ := hy)
  | (refine Le.call (zhS _) fun _ _ _ hy => ?_; obtain ⟨_, rfl⟩ := hy)
  | (refine Le.call (zgY _) fun _ _ _ hy => ?_; obtain ⟨_, rfl⟩ := hy)
  | with_reducible refine Le.bool (fun _ => ?_) (fun _ => ?_)
  | ((with_reducible refine Le.ret ?_); first | exact rfl | exact Pu.mk)
noncomputable abbrev zfW (s1 : TScope) (k : List Fr) : Option Res := go T (enF [.tmp 2] []) ztf k ⟨[Z, .box [D.sl false 5 (List.map (TBinding.e false) s1.Vars), D.sl false 4 (List.map (TFunction.e false) s1.Functions), D.sl false 2 (List.map (TRecordType.e false) s1.Types)], Z, Z, Z, Z, Z, Z, Z, Z, Z, Z, Z, Z, Z, Z, Z, Z, Z, Z, Z, Z, Z, Z, Z, Z, Z, Z, Z, Z, Z, Z, Z, Z, Z, Z, Z, Z, Z, Z, Z, Z, Z, Z, Z, Z, Z, Z, Z], []⟩
noncomputable abbrev zjh (s1 : TScope) (k : List Fr) (t : Bool) (x : Option Res) : Prop := Pu (D.bool t) [] x
theorem zji (s1 : TScope) (k : List Fr) : Le (zjh s1 k) (zdM s1) (zfW s1 k) := by
 unfold zdM zfW ztf
 repeat' (try conv => arg 3; simp (maxSteps := 999999) only [sx, ty, ↓reduceIte, seval, *]); first
  | (refine Le.call (zhr _) fun _ _ _ hy => ?_; obtain ⟨_, rfl⟩ := hy)
  | (refine Le.call (zgV _) fun _ _ _ hy => ?_; obtain ⟨_, rfl⟩ := hy)
  | (refine Le.call (zgi _) fun _ _ _ hy => ?_; obtain ⟨_, rfl⟩ := hy)
  | (refine Le.via (zjg _ _ _) fun _ _ _ hy => ?_; try dsimp only [zfV] at hy; first | subst hy | obtain ⟨_, rfl⟩ := hy)
  | with_reducible refine Le.bool (fun _ => ?_) (fun _ => ?_)
  | ((with_reducible refine Le.ret ?_); first | exact rfl | exact Pu.mk)
theorem zlA (p0 : TScope) : Le (fun r x => Pu (D.bool r) [] x) (zei p0) (zab T 30 [D.agg [D.sl false 5 (List.map (TBinding.e false) p0.Vars), D.sl false 4 (List.map (TFunction.e false) p0.Functions), D.sl false 2 (List.map (TRecordType.e false) p0.Types)]] []) := by
 unfold zei
 refine Le.enter (g := v30) rfl rfl rfl rfl ?_
 repeat' (try conv => arg 3; simp (maxSteps := 999999) only [sx, ty, ↓reduceIte, seval, *, v30, zyi]); first
  | exact zji _ _
  | ((with_reducible refine Le.ret ?_); first | exact rfl | exact Pu.mk)
  | with_reducible refine Le.itq (fun _ => ?_) (fun _ => ?_)
theorem zet (xs : List TBinding) (h : xs.length ≤ 2147483648) : zab T 80 [.sl false 5 (xs.map (TBinding.e false))] [] = some (.sl true 5 (xs.map (TBinding.e false)), [], []) := by
 cases xs with
 | nil =>
  rw [zae T (g := v80) rfl rfl rfl _ _ rfl]
  simp (maxSteps := 9999999) (disch := omega) only [vx, px, ty, ↓reduceIte, seval, fx, vxd, Nat.reduceBNe, most, ifT, ifF, v80, zwL]
 | cons x xs =>
  rw [List.length_cons] at h
  rw [zae T (g := v80) rfl rfl rfl _ _ rfl]
  simp (maxSteps := 9999999) (disch := omega) only [vx, px, ty, ↓reduceIte, seval, fx, vxd, Nat.reduceBNe, most, ifT, ifF, v80, zwL]
theorem zeu (p0 : List TBinding) : Le (fun r x => Pu (D.sl true 5 (List.map (TBinding.e false) r)) [] x) (zaL p0) (zab T 80 [D.sl false 5 (List.map (TBinding.e false) p0)] []) := by
 unfold zaL
 refine Le.chk fun h => Le.ret ?_
 exact ⟨_, zet p0 h⟩
end Go.Vx.DfZ
