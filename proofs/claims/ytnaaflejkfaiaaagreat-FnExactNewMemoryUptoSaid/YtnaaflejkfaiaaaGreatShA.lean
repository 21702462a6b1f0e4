/-
  What the plain functions give, the program gives too.
-/
import Derived.Test.YtnaaflejkfaiaaaGreatCode
import Derived.Test.YtnaaflejkfaiaaaGreatDef
set_option linter.unusedVariables false
set_option linter.unusedSimpArgs false
namespace Go.Vx.NmZ
set_option linter.unusedVariables false
set_option linter.unusedSimpArgs false
set_option maxRecDepth 10000
set_option maxHeartbeats 2000000
theorem zdB (p0 : Int) (p1 : Int) (p2 : Int) : Le (fun r x => Pu (D.bool r) [] x) (zdL p0 p1 p2) (zab T 120 [D.int .i64 p0, D.int .i64 p1, D.int .i64 p2] []) := by
 unfold zdL
 refine Le.enter (g := v120) rfl rfl rfl rfl ?_
 repeat' (try conv => arg 3; simp (maxSteps := 999999) only [sx, ty, ↓reduceIte, seval, *, v120, zxK]); first
  | ((with_reducible refine Le.ret ?_); first | exact rfl | exact Pu.mk)
  | with_reducible refine Le.itq (fun _ => ?_) (fun _ => ?_)
theorem zin (p0 : TValue) (p1 : Bool) (p2 : Bool) (p3 : Bool) : Le (fun r x => Pu (D.bool r) [] x) (zeI p0 p1 p2 p3) (zab T 215 [D.agg [D.int .i64 p0.Kind, D.int .i64 p0.Num, D.str p0.Text, D.int .i64 p0.Ref], D.bool p1, D.bool p2, D.bool p3] []) := by
 unfold zeI
 refine Le.enter (g := v215) rfl rfl rfl rfl ?_
 repeat' (try conv => arg 3; simp (maxSteps := 999999) only [sx, ty, ↓reduceIte, seval, *, v215, zyO]); first
  | with_reducible refine Le.bool (fun _ => ?_) (fun _ => ?_)
  | ((with_reducible refine Le.ret ?_); first | exact rfl | exact Pu.mk)
  | with_reducible refine Le.itq (fun _ => ?_) (fun _ => ?_)
theorem zjS (p0 : Int) : Le (fun r x => Pu (D.bool r) [] x) (zhr p0) (zab T 247 [D.int .u8 p0] []) := by
 unfold zhr
 refine Le.enter (g := v247) rfl rfl rfl rfl ?_
 repeat' (try conv => arg 3; simp (maxSteps := 999999) only [sx, ty, ↓reduceIte, seval, *, v247, zzt]); first
  | ((with_reducible refine Le.ret ?_); first | exact rfl | exact Pu.mk)
  | with_reducible refine Le.itq (fun _ => ?_) (fun _ => ?_)
theorem zrd (p0 : Int) : Le (fun r x => Pu (D.bool r) [] x) (zkz p0) (zab T 248 [D.int .u8 p0] []) := by
 unfold zkz
 refine Le.enter (g := v248) rfl rfl rfl rfl ?_
 repeat' (try conv => arg 3; simp (maxSteps := 999999) only [sx, ty, ↓reduceIte, seval, *, v248, zzu]); first
  | ((with_reducible refine Le.ret ?_); first | exact rfl | exact Pu.mk)
  | with_reducible refine Le.itq (fun _ => ?_) (fun _ => ?_)
noncomputable abbrev zdg (s0 : ByteArray) (s1 : Int) (k : List Fr) : Option Res := go T (enF [.tmp 4] []) zpk (.lp zpl :: .bl 0 :: .sq (.clr [4,5,6,7,8,9,10,11,12,13,14,15,16,17,18,19,20,21,22,23,24,25,26,27,28,29,30,31,32,33,34,35,36,37,38,39,40]) :: k) ⟨[.d (D.str s0), .d (D.int .i64 s1), Z, Z, Z, Z, Z, Z, Z, Z, Z, Z, Z, Z, Z, Z, Z, Z, Z, Z, Z, Z, Z, Z, Z, Z, Z, Z, Z, Z, Z, Z, Z, Z, Z, Z, Z, Z, Z, Z, Z, Z], []⟩
noncomputable abbrev zdh (s0 : ByteArray) (k : List Fr) (t : Int) (x : Option Res) : Prop := x = bk T (enF [.tmp 4] []) k ⟨[.d (D.str s0), .d (D.int .i64 t), Z, Z, Z, Z, Z, Z, Z, Z, Z, Z, Z, Z, Z, Z, Z, Z, Z, Z, Z, Z, Z, Z, Z, Z, Z, Z, Z, Z, Z, Z, Z, Z, Z, Z, Z, Z, Z, Z, Z, Z], []⟩
theorem zkE (s0 : ByteArray) : ∀ (s1 : Int) (k : List Fr), Le (zdh s0 k) (zcS s0 s1) (zdg s0 s1 k) := by
 intro s1 k
 refine Le.cp (X := zdg s0 s1) (Q := zdh s0) ?_ k
 refine zcS.partial_correctness s0 (motive := fun s1 r => ∀ k : List Fr, zdh s0 k r (zdg s0 s1 k)) ?_ s1
 intro rec hrec s1
 refine Le.pc ?_
 intro k
 unfold zdg zpk
 repeat' (try conv => arg 3; simp (maxSteps := 999999) only [sx, ty, ↓reduceIte, seval, *, zvP]); first
  | (refine Le.call (zjS _) fun _ _ _ hy => ?_; obtain ⟨_, rfl⟩ := hy)
  | (refine Le.call (zrd _) fun _ _ _ hy => ?_; obtain ⟨_, rfl⟩ := hy)
  | with_reducible refine Le.idxB fun _ _ _ _ => ?_
  | with_reducible refine Le.bool (fun _ => ?_) (fun _ => ?_)
  | ((with_reducible refine Le.ret ?_); first | exact rfl | exact Pu.mk)
  | with_reducible refine Le.itq (fun _ => ?_) (fun _ => ?_)
  | exact fun r hr => hrec _ r hr k
noncomputable abbrev zgS (s0 : ByteArray) (s1 : Int) (k : List Fr) : Option Res := go T (enF [.tmp 4] []) zrX k ⟨[.d (D.str s0), .d (D.int .i64 s1), Z, Z, Z, Z, Z, Z, Z, Z, Z, Z, Z, Z, Z, Z, Z, Z, Z, Z, Z, Z, Z, Z, Z, Z, Z, Z, Z, Z, Z, Z, Z, Z, Z, Z, Z, Z, Z, Z, Z, Z], []⟩
noncomputable abbrev zkF (s0 : ByteArray) (s1 : Int) (k : List Fr) (t : Int) (x : Option Res) : Prop := Pu (D.int .i64 t) [] x
theorem zkG (s0 : ByteArray) (s1 : Int) (k : List Fr) : Le (zkF s0 s1 k) (zfL s0 s1) (zgS s0 s1 k) := by
 unfold zfL zgS zrX
 repeat' (try conv => arg 3; simp (maxSteps := 999999) only [sx, ty, ↓reduceIte, seval, *, zvP]); first
  | (refine Le.via (zkE _ _ _) fun _ _ _ hy => ?_; try dsimp only [zdh] at hy; first | subst hy | obtain ⟨_, rfl⟩ := hy)
  | ((with_reducible refine Le.ret ?_); first | exact rfl | exact Pu.mk)
theorem znq (p0 : ByteArray) (p1 : Int) : Le (fun r x => Pu (D.int .i64 r) [] x) (zif p0 p1) (zab T 214 [D.str p0, D.int .i64 p1] []) := by
 unfold zif
 refine Le.enter (g := v214) rfl rfl rfl rfl ?_
 repeat' (try conv => arg 3; simp (maxSteps := 999999) only [sx, ty, ↓reduceIte, seval, *, zvP, v214, zyN]); first
  | (refine Le.call (zjS _) fun _ _ _ hy => ?_; obtain ⟨_, rfl⟩ := hy)
  | exact zkG _ _ _
  | ((with_reducible refine Le.ret ?_); first | exact rfl | exact Pu.mk)
  | with_reducible refine Le.idxB fun _ _ _ _ => ?_
  | with_reducible refine Le.bool (fun _ => ?_) (fun _ => ?_)
  | with_reducible refine Le.itq (fun _ => ?_) (fun _ => ?_)
theorem zdU (p0 : ByteArray) : Le (fun r x => Pu (D.bool r) [] x) (zed p0) (zab T 154 [D.str p0] []) := by
 unfold zed
 refine Le.enter (g := v154) rfl rfl rfl rfl ?_
 repeat' (try conv => arg 3; simp (maxSteps := 999999) only [sx, ty, ↓reduceIte, seval, *, v154, zxQ]); first
  | (refine Le.call (znq _ _) fun _ _ _ hy => ?_; obtain ⟨_, rfl⟩ := hy)
  | ((with_reducible refine Le.ret ?_); first | exact rfl | exact Pu.mk)
  | with_reducible refine Le.itq (fun _ => ?_) (fun _ => ?_)
noncomputable abbrev zgT (s1 : TValue) (s45 : Bool) (k : List Fr) : Option Res := go T (enF [.tmp 2] []) zrK k ⟨[Z, .box [D.int .i64 s1.Kind, D.int .i64 s1.Num, D.str s1.Text, D.int .i64 s1.Ref], Z, Z, Z, Z, Z, Z, Z, Z, Z, Z, Z, Z, Z, Z, Z, Z, Z, Z, Z, Z, Z, Z, Z, Z, Z, Z, Z, Z, Z, Z, Z, Z, Z, Z, Z, Z, Z, Z, Z, Z, Z, Z, Z, .d (D.bool s45), Z, Z, Z, Z, Z, Z, Z, Z, Z], []⟩
noncomputable abbrev zgU (s1 : TValue) (s45 : Bool) (k : List Fr) (t : (Bool ⊕ Bool)) (x : Option Res) : Prop := match t with | .inl t => x = bk T (enF [.tmp 2] []) k ⟨[Z, .box [D.int .i64 s1.Kind, D.int .i64 s1.Num, D.str s1.Text, D.int .i64 s1.Ref], Z, Z, Z, Z, Z, Z, Z, Z, Z, Z, Z, Z, Z, Z, Z, Z, Z, Z, Z, Z, Z, Z, Z, Z, Z, Z, Z, Z, Z, Z, Z, Z, Z, Z, Z, Z, Z, Z, Z, Z, Z, Z, Z, .d (D.bool t), Z, Z, Z, Z, Z, Z, Z, Z, Z], []⟩ | .inr t => Pu (D.bool t) [] x
theorem zkH (s1 : TValue) (s45 : Bool) (k : List Fr) : Le (zgU s1 s45 k) (zee s1 s45) (zgT s1 s45 k) := by
 unfold zee zgT zrK
 repeat' (try conv => arg 3; simp (maxSteps := 999999) only [sx, ty, ↓reduceIte, seval, *]); first
  | (refine Le.call (zin _ _ _ _) fun _ _ _ hy => ?_; obtain ⟨_, rfl⟩ := hy)
  | (refine Le.call (zdU _) fun _ _ _ hy => ?_; obtain ⟨_, rfl⟩ := hy)
  | with_reducible refine Le.bool (fun _ => ?_) (fun _ => ?_)
  | ((with_reducible refine Le.ret ?_); first | exact rfl | exact Pu.mk)
noncomputable abbrev zgV (s1 : TValue) (s4 : Int) (s34 : Bool) (k : List Fr) : Option Res := go T (enF [.tmp 2] []) zrL k ⟨[Z, .box [D.int .i64 s1.Kind, D.int .i64 s1.Num, D.str s1.Text, D.int .i64 s1.Ref], Z, Z, .d (D.int .i64 s4), Z, Z, Z, Z, Z, Z, Z, Z, Z, Z, Z, Z, Z, Z, Z, Z, Z, Z, Z, Z, Z, Z, Z, Z, Z, Z, Z, Z, Z, .d (D.bool s34), Z, Z, Z, Z, Z, Z, Z, Z, Z, Z, Z, Z, Z, Z, Z, Z, Z, Z, Z, Z], []⟩
noncomputable abbrev zgW (s1 : TValue) (s4 : Int) (s34 : Bool) (k : List Fr) (t : (Unit ⊕ Bool)) (x : Option Res) : Prop := match t with | .inl t => x = bk T (enF [.tmp 2] []) k ⟨[Z, .box [D.int .i64 s1.Kind, D.int .i64 s1.Num, D.str s1.Text, D.int .i64 s1.Ref], Z, Z, Z, Z, Z, Z, Z, Z, Z, Z, Z, Z, Z, Z, Z, Z, Z, Z, Z, Z, Z, Z, Z, Z, Z, Z, Z, Z, Z, Z, Z, Z, Z, Z, Z, Z, Z, Z, Z, Z, Z, Z, Z, Z, Z, Z, Z, Z, Z, Z, Z, Z, Z], []⟩ | .inr t => Pu (D.bool t) [] x
theorem zkI (s1 : TValue) (s4 : Int) (s34 : Bool) (k : List Fr) : Le (zgW s1 s4 s34 k) (zcT s1 s4 s34) (zgV s1 s4 s34 k) := by
 unfold zcT zgV zrL
 repeat' (try conv => arg 3; simp (maxSteps := 999999) only [sx, ty, ↓reduceIte, seval, *]); first
  | (refine Le.call (zin _ _ _ _) fun _ _ _ hy => ?_; obtain ⟨_, rfl⟩ := hy)
  | (refine Le.call (zdB _ _ _) fun _ _ _ hy => ?_; obtain ⟨_, rfl⟩ := hy)
  | (refine Le.via (zkH _ _ _) fun t _ _ hy => ?_; rcases t with t | t <;> (try dsimp only [zgU] at hy; first | subst hy | obtain ⟨_, rfl⟩ := hy))
  | with_reducible refine Le.bool (fun _ => ?_) (fun _ => ?_)
  | ((with_reducible refine Le.ret ?_); first | exact rfl | exact Pu.mk)
  | with_reducible refine Le.itq (fun _ => ?_) (fun _ => ?_)
theorem zeS (p0 : TValue) : Le (fun r x => Pu (D.bool r) [] x) (zdS p0) (zab T 155 [D.agg [D.int .i64 p0.Kind, D.int .i64 p0.Num, D.str p0.Text, D.int .i64 p0.Ref]] []) := by
 unfold zdS
 refine Le.enter (g := v155) rfl rfl rfl rfl ?_
 repeat' (try conv => arg 3; simp (maxSteps := 999999) only [sx, ty, ↓reduceIte, seval, *, v155, zxR]); first
  | (refine Le.call (zin _ _ _ _) fun _ _ _ hy => ?_; obtain ⟨_, rfl⟩ := hy)
  | (refine Le.call (zdB _ _ _) fun _ _ _ hy => ?_; obtain ⟨_, rfl⟩ := hy)
  | (refine Le.via (zkI _ _ _ _) fun t _ _ hy => ?_; rcases t with t | t <;> (try dsimp only [zgW] at hy; first | subst hy | obtain ⟨_, rfl⟩ := hy))
  | with_reducible refine Le.bool (fun _ => ?_) (fun _ => ?_)
  | ((with_reducible refine Le.ret ?_); first | exact rfl | exact Pu.mk)
  | with_reducible refine Le.itq (fun _ => ?_) (fun _ => ?_)
noncomputable abbrev zbC (s0 : List TValue) (s1 : Int) (s5 : Int) (k : List Fr) : Option Res := go T (enF [.tmp 4] []) zpy (.lp zpz :: .bl 0 :: .sq (.clr [4,5,6,7,8,9,10,11,12,13,14,15,16,17,18,19,20,21]) :: k) ⟨[.d (D.sl false 4 (List.map (TValue.e false) s0)), .d (D.int .i64 s1), Z, Z, Z, .d (D.int .i64 s5), Z, Z, Z, Z, Z, Z, Z, Z, Z, Z, Z, Z, Z, Z, Z, Z], []⟩
noncomputable abbrev zbD (s0 : List TValue) (s1 : Int) (k : List Fr) (t : (Unit ⊕ Bool)) (x : Option Res) : Prop := match t with | .inl t => x = bk T (enF [.tmp 4] []) k ⟨[.d (D.sl false 4 (List.map (TValue.e false) s0)), .d (D.int .i64 s1), Z, Z, Z, Z, Z, Z, Z, Z, Z, Z, Z, Z, Z, Z, Z, Z, Z, Z, Z, Z], []⟩ | .inr t => Pu (D.bool t) [] x
theorem zio (s0 : List TValue) (s1 : Int) : ∀ (s5 : Int) (k : List Fr), Le (zbD s0 s1 k) (zdM s0 s1 s5) (zbC s0 s1 s5 k) := by
 intro s5 k
 refine Le.cp (X := zbC s0 s1 s5) (Q := zbD s0 s1) ?_ k
 refine zdM.partial_correctness s0 s1 (motive := fun s5 r => ∀ k : List Fr, zbD s0 s1 k r (zbC s0 s1 s5 k)) ?_ s5
 intro rec hrec s5
 refine Le.pc ?_
 intro k
 unfold zbC zpy
 repeat' (try conv => arg 3; simp (maxSteps := 999999) only [sx, ty, ↓reduceIte, seval, *, zzk]); first
  | (refine Le.call (zeS _) fun _ _ _ hy => ?_; obtain ⟨_, rfl⟩ := hy)
  | with_reducible refine Le.idx fun _ _ _ _ => ?_
  | with_reducible refine Le.bool (fun _ => ?_) (fun _ => ?_)
  | ((with_reducible refine Le.ret ?_); first | exact rfl | exact Pu.mk)
  | with_reducible refine Le.itq (fun _ => ?_) (fun _ => ?_)
  | exact fun r hr => hrec _ r hr k
theorem zey (p0 : List TValue) (p1 : Int) : Le (fun r x => Pu (D.bool r) [] x) (zcv p0 p1) (zab T 234 [D.sl false 4 (List.map (TValue.e false) p0), D.int .i64 p1] []) := by
 unfold zcv
 refine Le.enter (g := v234) rfl rfl rfl rfl ?_
 repeat' (try conv => arg 3; simp (maxSteps := 999999) only [sx, ty, ↓reduceIte, seval, *, zzk, v234, zzl]); first
  | (refine Le.via (zio _ _ _ _) fun t _ _ hy => ?_; rcases t with t | t <;> (try dsimp only [zbD] at hy; first | subst hy | obtain ⟨_, rfl⟩ := hy))
  | ((with_reducible refine Le.ret ?_); first | exact rfl | exact Pu.mk)
  | with_reducible refine Le.itq (fun _ => ?_) (fun _ => ?_)
theorem zqd (p0 : TValue) (p1 : TValue) : Le (fun r x => Pu (D.bool r) [] x) (zjm p0 p1) (zab T 261 [D.agg [D.int .i64 p0.Kind, D.int .i64 p0.Num, D.str p0.Text, D.int .i64 p0.Ref], D.agg [D.int .i64 p1.Kind, D.int .i64 p1.Num, D.str p1.Text, D.int .i64 p1.Ref]] []) := by
 unfold zjm
 refine Le.enter (g := v261) rfl rfl rfl rfl ?_
 try conv => arg 3; simp (maxSteps := 999999) only [sx, ty, ↓reduceIte, seval, *, v261, zzF]
 ((with_reducible refine Le.ret ?_); first | exact rfl | exact Pu.mk)
noncomputable abbrev zcE (s0 : List TValue) (s3 : Int) (s4 : Int) (k : List Fr) : Option Res := go T (enF [.tmp 2] []) zpA (.lp zpB :: .bl 2 :: .sq (.clr [2,4,5,6,7,8,9,10,11,12,13,14,15,16,17,18,19,20,21,22,23,24]) :: k) ⟨[.d (D.sl false 4 (List.map (TValue.e false) s0)), Z, Z, .d (D.int .i64 s3), .d (D.int .i64 s4), Z, Z, Z, Z, Z, Z, Z, Z, Z, Z, Z, Z, Z, Z, Z, Z, Z, Z, Z, Z], []⟩
noncomputable abbrev zcF (s0 : List TValue) (s3 : Int) (k : List Fr) (t : (Unit ⊕ Bool)) (x : Option Res) : Prop := match t with | .inl t => x = bk T (enF [.tmp 2] []) k ⟨[.d (D.sl false 4 (List.map (TValue.e false) s0)), Z, Z, .d (D.int .i64 s3), Z, Z, Z, Z, Z, Z, Z, Z, Z, Z, Z, Z, Z, Z, Z, Z, Z, Z, Z, Z, Z], []⟩ | .inr t => Pu (D.bool t) [] x
theorem zjT (s0 : List TValue) (s3 : Int) : ∀ (s4 : Int) (k : List Fr), Le (zcF s0 s3 k) (zff s0 s3 s4) (zcE s0 s3 s4 k) := by
 intro s4 k
 refine Le.cp (X := zcE s0 s3 s4) (Q := zcF s0 s3) ?_ k
 refine zff.partial_correctness s0 s3 (motive := fun s4 r => ∀ k : List Fr, zcF s0 s3 k r (zcE s0 s3 s4 k)) ?_ s4
 intro rec hrec s4
 refine Le.pc ?_
 intro k
 unfold zcE zpA
 repeat' (try conv => arg 3; simp (maxSteps := 999999) only [sx, ty, ↓reduceIte, seval, *, zvS, zvT]); first
  | (refine Le.dcall (zqd _ _) fun _ _ _ hy => ?_; obtain ⟨_, rfl⟩ := hy)
  | with_reducible refine Le.idx fun _ _ _ _ => ?_
  | with_reducible refine Le.bool (fun _ => ?_) (fun _ => ?_)
  | ((with_reducible refine Le.ret ?_); first | exact rfl | exact Pu.mk)
  | with_reducible refine Le.itq (fun _ => ?_) (fun _ => ?_)
  | exact fun r hr => hrec _ r hr k
noncomputable abbrev zcG (s0 : List TValue) (s3 : Int) (k : List Fr) : Option Res := go T (enF [.tmp 2] []) zpC (.lp zpD :: .bl 0 :: .sq (.clr [2,3,4,5,6,7,8,9,10,11,12,13,14,15,16,17,18,19,20,21,22,23,24]) :: k) ⟨[.d (D.sl false 4 (List.map (TValue.e false) s0)), Z, Z, .d (D.int .i64 s3), Z, Z, Z, Z, Z, Z, Z, Z, Z, Z, Z, Z, Z, Z, Z, Z, Z, Z, Z, Z, Z], []⟩
noncomputable abbrev zcH (s0 : List TValue) (k : List Fr) (t : (Unit ⊕ Bool)) (x : Option Res) : Prop := match t with | .inl t => x = bk T (enF [.tmp 2] []) k ⟨[.d (D.sl false 4 (List.map (TValue.e false) s0)), Z, Z, Z, Z, Z, Z, Z, Z, Z, Z, Z, Z, Z, Z, Z, Z, Z, Z, Z, Z, Z, Z, Z, Z], []⟩ | .inr t => Pu (D.bool t) [] x
theorem zjU (s0 : List TValue) : ∀ (s3 : Int) (k : List Fr), Le (zcH s0 k) (zfg s0 s3) (zcG s0 s3 k) := by
 intro s3 k
 refine Le.cp (X := zcG s0 s3) (Q := zcH s0) ?_ k
 refine zfg.partial_correctness s0 (motive := fun s3 r => ∀ k : List Fr, zcH s0 k r (zcG s0 s3 k)) ?_ s3
 intro rec hrec s3
 refine Le.pc ?_
 intro k
 unfold zcG zpC
 repeat' (try conv => arg 3; simp (maxSteps := 999999) only [sx, ty, ↓reduceIte, seval, *, zvS, zvT]); first
  | (refine Le.via (zjT _ _ _ _) fun t _ _ hy => ?_; rcases t with t | t <;> (try dsimp only [zcF] at hy; first | subst hy | obtain ⟨_, rfl⟩ := hy))
  | ((with_reducible refine Le.ret ?_); first | exact rfl | exact Pu.mk)
  | with_reducible refine Le.itq (fun _ => ?_) (fun _ => ?_)
  | exact fun r hr => hrec _ r hr k
theorem zip (p0 : List TValue) : Le (fun r x => Pu (D.bool r) [] x) (zfy p0) (zab T 235 [D.sl false 4 (List.map (TValue.e false) p0)] []) := by
 unfold zfy
 refine Le.enter (g := v235) rfl rfl rfl rfl ?_
 repeat' (try conv => arg 3; simp (maxSteps := 999999) only [sx, ty, ↓reduceIte, seval, *, zvS, zvT, v235, zzm]); first
  | (refine Le.via (zjU _ _ _) fun t _ _ hy => ?_; rcases t with t | t <;> (try dsimp only [zcH] at hy; first | subst hy | obtain ⟨_, rfl⟩ := hy))
  | ((with_reducible refine Le.ret ?_); first | exact rfl | exact Pu.mk)
noncomputable abbrev zbR (s0 : List TValue) (s3 : Int) (k : List Fr) : Option Res := go T (enF [.tmp 2] []) zpE (.lp zpF :: .bl 0 :: .sq (.clr [2,3,4,5,6,7,8,9,10,11,12,13,14,15,16,17,18,19,20,21,22,23,24]) :: k) ⟨[.d (D.sl false 4 (List.map (TValue.e false) s0)), Z, Z, .d (D.int .i64 s3), Z, Z, Z, Z, Z, Z, Z, Z, Z, Z, Z, Z, Z, Z, Z, Z, Z, Z, Z, Z, Z, Z, Z, Z, Z, Z, Z, Z, Z, Z, Z, Z], []⟩
noncomputable abbrev zbS (s0 : List TValue) (k : List Fr) (t : (Unit ⊕ Bool)) (x : Option Res) : Prop := match t with | .inl t => x = bk T (enF [.tmp 2] []) k ⟨[.d (D.sl false 4 (List.map (TValue.e false) s0)), Z, Z, Z, Z, Z, Z, Z, Z, Z, Z, Z, Z, Z, Z, Z, Z, Z, Z, Z, Z, Z, Z, Z, Z, Z, Z, Z, Z, Z, Z, Z, Z, Z, Z, Z], []⟩ | .inr t => Pu (D.bool t) [] x
theorem ziR (s0 : List TValue) : ∀ (s3 : Int) (k : List Fr), Le (zbS s0 k) (zef s0 s3) (zbR s0 s3 k) := by
 intro s3 k
 refine Le.cp (X := zbR s0 s3) (Q := zbS s0) ?_ k
 refine zef.partial_correctness s0 (motive := fun s3 r => ∀ k : List Fr, zbS s0 k r (zbR s0 s3 k)) ?_ s3
 intro rec hrec s3
 refine Le.pc ?_
 intro k
 unfold zbR zpE
 repeat' (try conv => arg 3; simp (maxSteps := 999999) only [sx, ty, ↓reduceIte, seval, *, zzn]); first
  | (refine Le.call (zdU _) fun _ _ _ hy => ?_; obtain ⟨_, rfl⟩ := hy)
  | with_reducible refine Le.idx fun _ _ _ _ => ?_
  | with_reducible refine Le.bool (fun _ => ?_) (fun _ => ?_)
  | ((with_reducible refine Le.ret ?_); first | exact rfl | exact Pu.mk)
  | with_reducible refine Le.itq (fun _ => ?_) (fun _ => ?_)
  | exact fun r hr => hrec _ r hr k
theorem zkJ (p0 : List TValue) : Le (fun r x => Pu (D.bool r) [] x) (zfM p0) (zab T 236 [D.sl false 4 (List.map (TValue.e false) p0)] []) := by
 unfold zfM
 refine Le.enter (g := v236) rfl rfl rfl rfl ?_
 repeat' (try conv => arg 3; simp (maxSteps := 999999) only [sx, ty, ↓reduceIte, seval, *, zzn, v236, zzo]); first
  | (refine Le.via (ziR _ _ _) fun t _ _ hy => ?_; rcases t with t | t <;> (try dsimp only [zbS] at hy; first | subst hy | obtain ⟨_, rfl⟩ := hy))
  | (refine Le.call (zey _ _) fun _ _ _ hy => ?_; obtain ⟨_, rfl⟩ := hy)
  | (refine Le.call (zip _) fun _ _ _ hy => ?_; obtain ⟨_, rfl⟩ := hy)
  | with_reducible refine Le.bool (fun _ => ?_) (fun _ => ?_)
  | ((with_reducible refine Le.ret ?_); first | exact rfl | exact Pu.mk)
  | with_reducible refine Le.itq (fun _ => ?_) (fun _ => ?_)
noncomputable abbrev zhG (s1 : TObject) (k : List Fr) : Option Res := go T (enF [.tmp 2] []) zrW k ⟨[Z, .box [D.int .i64 s1.Id, D.int .i64 s1.Kind, D.str s1.Name, D.int .i64 s1.Low, D.sl false 4 (List.map (TValue.e false) s1.Keys), D.sl false 4 (List.map (TValue.e false) s1.Vals), D.int .i64 s1.Default.Kind, D.int .i64 s1.Default.Num, D.str s1.Default.Text, D.int .i64 s1.Default.Ref], Z, Z, Z, Z, Z, Z, Z, Z, Z, Z, Z, Z, Z, Z, Z, Z, Z, Z, Z, Z, Z, Z, Z, Z, Z, Z, Z, Z, Z, Z, Z, Z, Z, Z, Z, Z, Z, Z, Z, Z, Z, Z, Z, Z, Z, Z, Z, Z, Z, Z, Z, Z, Z, Z, Z, Z, Z, Z, Z, Z, Z, Z, Z, Z, Z, Z, Z, Z, Z, Z, Z, Z, Z, Z, Z, Z, Z, Z, Z, Z, Z, Z, Z, Z, Z, Z, Z, Z, Z, Z, Z, Z, Z, Z, Z, Z, Z, Z, Z], []⟩
noncomputable abbrev zlu (s1 : TObject) (k : List Fr) (t : Bool) (x : Option Res) : Prop := Pu (D.bool t) [] x
theorem zlv (s1 : TObject) (k : List Fr) : Le (zlu s1 k) (zgG s1) (zhG s1 k) := by
 unfold zgG zhG zrW
 repeat' (try conv => arg 3; simp (maxSteps := 999999) only [sx, ty, ↓reduceIte, seval, *]); first
  | (refine Le.call (zdB _ _ _) fun _ _ _ hy => ?_; obtain ⟨_, rfl⟩ := hy)
  | (refine Le.call (zey _ _) fun _ _ _ hy => ?_; obtain ⟨_, rfl⟩ := hy)
  | (refine Le.call (zip _) fun _ _ _ hy => ?_; obtain ⟨_, rfl⟩ := hy)
  | (refine Le.call (zeS _) fun _ _ _ hy => ?_; obtain ⟨_, rfl⟩ := hy)
  | (refine Le.call (zdU _) fun _ _ _ hy => ?_; obtain ⟨_, rfl⟩ := hy)
  | (refine Le.call (zkJ _) fun _ _ _ hy => ?_; obtain ⟨_, rfl⟩ := hy)
  | with_reducible refine Le.bool (fun _ => ?_) (fun _ => ?_)
  | ((with_reducible refine Le.ret ?_); first | exact rfl | exact Pu.mk)
  | with_reducible refine Le.itq (fun _ => ?_) (fun _ => ?_)
theorem zqe (p0 : TObject) : Le (fun r x => Pu (D.bool r) [] x) (zjn p0) (zab T 196 [D.agg [D.int .i64 p0.Id, D.int .i64 p0.Kind, D.str p0.Name, D.int .i64 p0.Low, D.sl false 4 (List.map (TValue.e false) p0.Keys), D.sl false 4 (List.map (TValue.e false) p0.Vals), D.int .i64 p0.Default.Kind, D.int .i64 p0.Default.Num, D.str p0.Default.Text, D.int .i64 p0.Default.Ref]] []) := by
 unfold zjn
 refine Le.enter (g := v196) rfl rfl rfl rfl ?_
 repeat' (try conv => arg 3; simp (maxSteps := 999999) only [sx, ty, ↓reduceIte, seval, *, v196, zyI]); first
  | (refine Le.call (zdB _ _ _) fun _ _ _ hy => ?_; obtain ⟨_, rfl⟩ := hy)
  | (refine Le.call (zey _ _) fun _ _ _ hy => ?_; obtain ⟨_, rfl⟩ := hy)
  | exact zlv _ _
  | with_reducible refine Le.bool (fun _ => ?_) (fun _ => ?_)
  | ((with_reducible refine Le.ret ?_); first | exact rfl | exact Pu.mk)
theorem zre (p0 : TValue) : Le (fun r x => Pu (D.bool r) [] x) (zkA p0) (zab T 237 [D.agg [D.int .i64 p0.Kind, D.int .i64 p0.Num, D.str p0.Text, D.int .i64 p0.Ref]] []) := by
 unfold zkA
 refine Le.enter (g := v237) rfl rfl rfl rfl ?_
 repeat' (try conv => arg 3; simp (maxSteps := 999999) only [sx, ty, ↓reduceIte, seval, *, v237, zzp]); first
  | (refine Le.call (zdB _ _ _) fun _ _ _ hy => ?_; obtain ⟨_, rfl⟩ := hy)
  | ((with_reducible refine Le.ret ?_); first | exact rfl | exact Pu.mk)
noncomputable abbrev zeT (s1 : Int) (g0 : Int) (g0_1 : List TObject) (s5 : Int) (k : List Fr) : Option Res := go T (enF [.tmp 4] []) zpG (.lp zpH :: .bl 0 :: .sq (.clr [4,5,6,7,8,9,10,11,12,13,14,15,16,17,18,19,20,21,22,23,24,25]) :: k) ⟨[.d (D.ref 0 0), .d (D.int .i64 s1), Z, Z, Z, .d (D.int .i64 s5), Z, Z, Z, Z, Z, Z, Z, Z, Z, Z, Z, Z, Z, Z, Z, Z, Z, Z, Z, Z], [[D.int .i64 g0, D.sl false 10 (List.map (TObject.e false) g0_1)]]⟩
noncomputable abbrev zeU (s1 : Int) (g0 : Int) (g0_1 : List TObject) (k : List Fr) (t : (Unit ⊕ Int)) (x : Option Res) : Prop := match t with | .inl t => x = bk T (enF [.tmp 4] []) k ⟨[.d (D.ref 0 0), .d (D.int .i64 s1), Z, Z, Z, Z, Z, Z, Z, Z, Z, Z, Z, Z, Z, Z, Z, Z, Z, Z, Z, Z, Z, Z, Z, Z], [[D.int .i64 g0, D.sl false 10 (List.map (TObject.e false) g0_1)]]⟩ | .inr t => x = some (D.int .i64 t, [], [[D.int .i64 g0, D.sl false 10 (List.map (TObject.e false) g0_1)]])
theorem znr (s1 : Int) (g0 : Int) (g0_1 : List TObject) : ∀ (s5 : Int) (k : List Fr), Le (zeU s1 g0 g0_1 k) (zig s1 g0 g0_1 s5) (zeT s1 g0 g0_1 s5 k) := by
 intro s5 k
 refine Le.cp (X := zeT s1 g0 g0_1 s5) (Q := zeU s1 g0 g0_1) ?_ k
 refine zig.partial_correctness s1 g0 g0_1 (motive := fun s5 r => ∀ k : List Fr, zeU s1 g0 g0_1 k r (zeT s1 g0 g0_1 s5 k)) ?_ s5
 intro rec hrec s5
 refine Le.pc ?_
 intro k
 unfold zeT zpG
 repeat' (try conv => arg 3; simp (maxSteps := 999999) only [sx, ty, ↓reduceIte, seval, *, zzq]); first
  | with_reducible refine Le.idx fun _ _ _ _ => ?_
  | ((with_reducible refine Le.ret ?_); first | exact rfl | exact Pu.mk)
  | with_reducible refine Le.itq (fun _ => ?_) (fun _ => ?_)
  | exact fun r hr => hrec _ r hr k
theorem zsu (p1 : Int) (g0 : Int) (g0_1 : List TObject) : Le (fun r x => x = some (D.int .i64 r, [], [[D.int .i64 g0, D.sl false 10 (List.map (TObject.e false) g0_1)]])) (zmO p1 g0 g0_1) (zab T 238 [D.ref 0 0, D.int .i64 p1] [[D.int .i64 g0, D.sl false 10 (List.map (TObject.e false) g0_1)]]) := by
 unfold zmO
 refine Le.enter (g := v238) rfl rfl rfl rfl ?_
 repeat' (try conv => arg 3; simp (maxSteps := 999999) only [sx, ty, ↓reduceIte, seval, *, zzq, v238, zzr]); first
  | (refine Le.via (znr _ _ _ _ _) fun t _ _ hy => ?_; rcases t with t | t <;> (try dsimp only [zeU] at hy; first | subst hy | obtain ⟨_, rfl⟩ := hy))
  | ((with_reducible refine Le.ret ?_); first | exact rfl | exact Pu.mk)
theorem zkK (p0 : Int) : Le (fun r x => Pu (D.int .i64 r) [] x) (zfN p0) (zab T 239 [D.int .i64 p0] []) := by
 unfold zfN
 refine Le.enter (g := v239) rfl rfl rfl rfl ?_
 try conv => arg 3; simp (maxSteps := 999999) only [sx, ty, ↓reduceIte, seval, *, v239, zzs]
 ((with_reducible refine Le.ret ?_); first | exact rfl | exact Pu.mk)
theorem zjr (p1 : TValue) (g0 : Int) (g0_1 : List TObject) : Le (fun r x => x = some (D.bool r, [], [[D.int .i64 g0, D.sl false 10 (List.map (TObject.e false) g0_1)]])) (zih p1 g0 g0_1) (zab T 198 [D.ref 0 0, D.agg [D.int .i64 p1.Kind, D.int .i64 p1.Num, D.str p1.Text, D.int .i64 p1.Ref]] [[D.int .i64 g0, D.sl false 10 (List.map (TObject.e false) g0_1)]]) := by
 unfold zih
 refine Le.enter (g := v198) rfl rfl rfl rfl ?_
 repeat' (try conv => arg 3; simp (maxSteps := 999999) only [sx, ty, ↓reduceIte, seval, *, v198, zyK]); first
  | (refine Le.call (zeS _) fun _ _ _ hy => ?_; obtain ⟨_, rfl⟩ := hy)
  | (refine Le.call (zre _) fun _ _ _ hy => ?_; obtain ⟨_, rfl⟩ := hy)
  | (refine Le.call (zsu _ _ _) fun _ _ _ hy => ?_; subst hy)
  | (refine Le.dcall (zkK _) fun _ _ _ hy => ?_; obtain ⟨_, rfl⟩ := hy)
  | with_reducible refine Le.bool (fun _ => ?_) (fun _ => ?_)
  | with_reducible refine Le.idx fun _ _ _ _ => ?_
  | ((with_reducible refine Le.ret ?_); first | exact rfl | exact Pu.mk)
  | with_reducible refine Le.itq (fun _ => ?_) (fun _ => ?_)
noncomputable abbrev zdG (s1 : List TValue) (g0 : Int) (g0_1 : List TObject) (s5 : Int) (k : List Fr) : Option Res := go T (enF [.tmp 4] []) zpi (.lp zpj :: .bl 0 :: .sq (.clr [4,5,6,7,8,9,10,11,12,13,14,15,16,17,18]) :: k) ⟨[.d (D.ref 0 0), .d (D.sl false 4 (List.map (TValue.e false) s1)), Z, Z, Z, .d (D.int .i64 s5), Z, Z, Z, Z, Z, Z, Z, Z, Z, Z, Z, Z, Z], [[D.int .i64 g0, D.sl false 10 (List.map (TObject.e false) g0_1)]]⟩
noncomputable abbrev zdH (s1 : List TValue) (g0 : Int) (g0_1 : List TObject) (k : List Fr) (t : (Unit ⊕ Bool)) (x : Option Res) : Prop := match t with | .inl t => x = bk T (enF [.tmp 4] []) k ⟨[.d (D.ref 0 0), .d (D.sl false 4 (List.map (TValue.e false) s1)), Z, Z, Z, Z, Z, Z, Z, Z, Z, Z, Z, Z, Z, Z, Z, Z, Z], [[D.int .i64 g0, D.sl false 10 (List.map (TObject.e false) g0_1)]]⟩ | .inr t => x = some (D.bool t, [], [[D.int .i64 g0, D.sl false 10 (List.map (TObject.e false) g0_1)]])
theorem zlw (s1 : List TValue) (g0 : Int) (g0_1 : List TObject) : ∀ (s5 : Int) (k : List Fr), Le (zdH s1 g0 g0_1 k) (zgH s1 g0 g0_1 s5) (zdG s1 g0 g0_1 s5 k) := by
 intro s5 k
 refine Le.cp (X := zdG s1 g0 g0_1 s5) (Q := zdH s1 g0 g0_1) ?_ k
 refine zgH.partial_correctness s1 g0 g0_1 (motive := fun s5 r => ∀ k : List Fr, zdH s1 g0 g0_1 k r (zdG s1 g0 g0_1 s5 k)) ?_ s5
 intro rec hrec s5
 refine Le.pc ?_
 intro k
 unfold zdG zpi
 repeat' (try conv => arg 3; simp (maxSteps := 999999) only [sx, ty, ↓reduceIte, seval, *, zyL]); first
  | (refine Le.call (zjr _ _ _) fun _ _ _ hy => ?_; subst hy)
  | with_reducible refine Le.idx fun _ _ _ _ => ?_
  | with_reducible refine Le.bool (fun _ => ?_) (fun _ => ?_)
  | ((with_reducible refine Le.ret ?_); first | exact rfl | exact Pu.mk)
  | with_reducible refine Le.itq (fun _ => ?_) (fun _ => ?_)
  | exact fun r hr => hrec _ r hr k
theorem zqf (p1 : List TValue) (g0 : Int) (g0_1 : List TObject) : Le (fun r x => x = some (D.bool r, [], [[D.int .i64 g0, D.sl false 10 (List.map (TObject.e false) g0_1)]])) (zhs p1 g0 g0_1) (zab T 207 [D.ref 0 0, D.sl false 4 (List.map (TValue.e false) p1)] [[D.int .i64 g0, D.sl false 10 (List.map (TObject.e false) g0_1)]]) := by
 unfold zhs
 refine Le.enter (g := v207) rfl rfl rfl rfl ?_
 repeat' (try conv => arg 3; simp (maxSteps := 999999) only [sx, ty, ↓reduceIte, seval, *, zyL, v207, zyM]); first
  | (refine Le.via (zlw _ _ _ _ _) fun t _ _ hy => ?_; rcases t with t | t <;> (try dsimp only [zdH] at hy; first | subst hy | obtain ⟨_, rfl⟩ := hy))
  | ((with_reducible refine Le.ret ?_); first | exact rfl | exact Pu.mk)
theorem zsv (p1 : Int) (p1_1 : Int) (p1_2 : ByteArray) (p1_3 : Int) (p1_4 : List TValue) (p1_5 : List TValue) (p1_6 : Int) (p1_7 : Int) (p1_8 : ByteArray) (p1_9 : Int) (g0 : Int) (g0_1 : List TObject) : Le (fun r x => x = some (D.bool r, [], [[D.int .i64 g0, D.sl false 10 (List.map (TObject.e false) g0_1)]])) (zmP p1 p1_1 p1_2 p1_3 p1_4 p1_5 p1_6 p1_7 p1_8 p1_9 g0 g0_1) (zab T 197 [D.ref 0 0, D.pim [D.int .i64 p1, D.int .i64 p1_1, D.str p1_2, D.int .i64 p1_3, D.sl false 4 (List.map (TValue.e false) p1_4), D.sl false 4 (List.map (TValue.e false) p1_5), D.int .i64 p1_6, D.int .i64 p1_7, D.str p1_8, D.int .i64 p1_9] 0] [[D.int .i64 g0, D.sl false 10 (List.map (TObject.e false) g0_1)]]) := by
 unfold zmP
 refine Le.enter (g := v197) rfl rfl rfl rfl ?_
 repeat' (try conv => arg 3; simp (maxSteps := 999999) only [sx, ty, ↓reduceIte, seval, *, v197, zyJ]); first
  | (refine Le.call (zqf _ _ _) fun _ _ _ hy => ?_; subst hy)
  | (refine Le.call (zjr _ _ _) fun _ _ _ hy => ?_; subst hy)
  | with_reducible refine Le.bool (fun _ => ?_) (fun _ => ?_)
  | ((with_reducible refine Le.ret ?_); first | exact rfl | exact Pu.mk)
  | with_reducible refine Le.itq (fun _ => ?_) (fun _ => ?_)
noncomputable abbrev zgn (g0 : Int) (g0_1 : List TObject) (s3 : Int) (k : List Fr) : Option Res := go T (enF [.tmp 2] []) zoJ (.lp zoK :: .bl 0 :: .sq (.clr [2,3,4,6,7,8,9,10,11,12,13,14,15,16,17,18,19,20,21,22,23,24,25,26,27,28,29,30,31,32,33,34,35,36,37,38,39,40,41,42,43,44,45,46,47,48,49,50,51,52,53,54,55,56,57,58,59,60,61,62,63,64,65]) :: k) ⟨[.d (D.ref 0 0), Z, Z, .d (D.int .i64 s3), Z, Z, Z, Z, Z, Z, Z, Z, Z, Z, Z, Z, Z, Z, Z, Z, Z, Z, Z, Z, Z, Z, Z, Z, Z, Z, Z, Z, Z, Z, Z, Z, Z, Z, Z, Z, Z, Z, Z, Z, Z, Z, Z, Z, Z, Z, Z, Z, Z, Z, Z, Z, Z, Z, Z, Z, Z, Z, Z, Z, Z, Z, Z, Z, Z, Z, Z, Z, Z, Z, Z, Z, Z, Z, Z, Z, Z, Z, Z, Z], [[D.int .i64 g0, D.sl false 10 (List.map (TObject.e false) g0_1)]]⟩
noncomputable abbrev zgo (g0 : Int) (g0_1 : List TObject) (k : List Fr) (t : (Unit ⊕ Bool)) (x : Option Res) : Prop := match t with | .inl t => x = bk T (enF [.tmp 2] []) k ⟨[.d (D.ref 0 0), Z, Z, Z, Z, Z, Z, Z, Z, Z, Z, Z, Z, Z, Z, Z, Z, Z, Z, Z, Z, Z, Z, Z, Z, Z, Z, Z, Z, Z, Z, Z, Z, Z, Z, Z, Z, Z, Z, Z, Z, Z, Z, Z, Z, Z, Z, Z, Z, Z, Z, Z, Z, Z, Z, Z, Z, Z, Z, Z, Z, Z, Z, Z, Z, Z, Z, Z, Z, Z, Z, Z, Z, Z, Z, Z, Z, Z, Z, Z, Z, Z, Z, Z], [[D.int .i64 g0, D.sl false 10 (List.map (TObject.e false) g0_1)]]⟩ | .inr t => x = some (D.bool t, [], [[D.int .i64 g0, D.sl false 10 (List.map (TObject.e false) g0_1)]])
theorem zrf (g0 : Int) (g0_1 : List TObject) : ∀ (s3 : Int) (k : List Fr), Le (zgo g0 g0_1 k) (ziK g0 g0_1 s3) (zgn g0 g0_1 s3 k) := by
 intro s3 k
 refine Le.cp (X := zgn g0 g0_1 s3) (Q := zgo g0 g0_1) ?_ k
 refine ziK.partial_correctness g0 g0_1 (motive := fun s3 r => ∀ k : List Fr, zgo g0 g0_1 k r (zgn g0 g0_1 s3 k)) ?_ s3
 intro rec hrec s3
 refine Le.pc ?_
 intro k
 unfold zgn zoJ
 repeat' (try conv => arg 3; simp (maxSteps := 999999) only [sx, ty, ↓reduceIte, seval, *, ztz, ztA]); first
  | (refine Le.dcall (zqe _) fun _ _ _ hy => ?_; obtain ⟨_, rfl⟩ := hy)
  | with_reducible refine Le.idx fun _ _ _ _ => ?_
  | with_reducible refine Le.bool (fun _ => ?_) (fun _ => ?_)
  | ((with_reducible refine Le.ret ?_); first | exact rfl | exact Pu.mk)
  | with_reducible refine Le.itq (fun _ => ?_) (fun _ => ?_)
  | exact fun r hr => hrec _ r hr k
noncomputable abbrev zgp (g0 : Int) (g0_1 : List TObject) (s5 : Int) (k : List Fr) : Option Res := go T (enF [.tmp 2] []) zoL (.lp zoM :: .bl 2 :: .sq (.clr [2,3,4,5,6,7,8,9,10,11,12,13,14,15,16,17,18,19,20,21,22,23,24,25,26,27,28,29,30,31,32,33,34,35,36,37,38,39,40,41,42,43,44,45,46,47,48,49,50,51,52,53,54,55,56,57,58,59,60,61,62,63,64,65,66,67,68,69,70,71,72,73,74,75,76,77,78,79,80,81,82,83]) :: k) ⟨[.d (D.ref 0 0), Z, Z, Z, Z, .d (D.int .i64 s5), Z, Z, Z, Z, Z, Z, Z, Z, Z, Z, Z, Z, Z, Z, Z, Z, Z, Z, Z, Z, Z, Z, Z, Z, Z, Z, Z, Z, Z, Z, Z, Z, Z, Z, Z, Z, Z, Z, Z, Z, Z, Z, Z, Z, Z, Z, Z, Z, Z, Z, Z, Z, Z, Z, Z, Z, Z, Z, Z, Z, Z, Z, Z, Z, Z, Z, Z, Z, Z, Z, Z, Z, Z, Z, Z, Z, Z, Z], [[D.int .i64 g0, D.sl false 10 (List.map (TObject.e false) g0_1)]]⟩
noncomputable abbrev zgq (g0 : Int) (g0_1 : List TObject) (k : List Fr) (t : (Unit ⊕ Bool)) (x : Option Res) : Prop := match t with | .inl t => x = bk T (enF [.tmp 2] []) k ⟨[.d (D.ref 0 0), Z, Z, Z, Z, Z, Z, Z, Z, Z, Z, Z, Z, Z, Z, Z, Z, Z, Z, Z, Z, Z, Z, Z, Z, Z, Z, Z, Z, Z, Z, Z, Z, Z, Z, Z, Z, Z, Z, Z, Z, Z, Z, Z, Z, Z, Z, Z, Z, Z, Z, Z, Z, Z, Z, Z, Z, Z, Z, Z, Z, Z, Z, Z, Z, Z, Z, Z, Z, Z, Z, Z, Z, Z, Z, Z, Z, Z, Z, Z, Z, Z, Z, Z], [[D.int .i64 g0, D.sl false 10 (List.map (TObject.e false) g0_1)]]⟩ | .inr t => x = some (D.bool t, [], [[D.int .i64 g0, D.sl false 10 (List.map (TObject.e false) g0_1)]])
theorem zrg (g0 : Int) (g0_1 : List TObject) : ∀ (s5 : Int) (k : List Fr), Le (zgq g0 g0_1 k) (zkB g0 g0_1 s5) (zgp g0 g0_1 s5 k) := by
 intro s5 k
 refine Le.cp (X := zgp g0 g0_1 s5) (Q := zgq g0 g0_1) ?_ k
 refine zkB.partial_correctness g0 g0_1 (motive := fun s5 r => ∀ k : List Fr, zgq g0 g0_1 k r (zgp g0 g0_1 s5 k)) ?_ s5
 intro rec hrec s5
 refine Le.pc ?_
 intro k
 unfold zgp zoL
 repeat' (try conv => arg 3; simp (maxSteps := 999999) only [sx, ty, ↓reduceIte, seval, *, ztz, ztA]); first
  | (refine Le.call (zsv _ _ _ _ _ _ _ _ _ _ _ _) fun _ _ _ hy => ?_; subst hy)
  | with_reducible refine Le.idx fun _ _ _ _ => ?_
  | with_reducible refine Le.bool (fun _ => ?_) (fun _ => ?_)
  | ((with_reducible refine Le.ret ?_); first | exact rfl | exact Pu.mk)
  | with_reducible refine Le.itq (fun _ => ?_) (fun _ => ?_)
  | exact fun r hr => hrec _ r hr k
noncomputable abbrev zln (g0 : Int) (g0_1 : List TObject) (k : List Fr) : Option Res := go T (enF [.tmp 2] []) zrJ k ⟨[.d (D.ref 0 0), Z, Z, Z, Z, Z, Z, Z, Z, Z, Z, Z, Z, Z, Z, Z, Z, Z, Z, Z, Z, Z, Z, Z, Z, Z, Z, Z, Z, Z, Z, Z, Z, Z, Z, Z, Z, Z, Z, Z, Z, Z, Z, Z, Z, Z, Z, Z, Z, Z, Z, Z, Z, Z, Z, Z, Z, Z, Z, Z, Z, Z, Z, Z, Z, Z, Z, Z, Z, Z, Z, Z, Z, Z, Z, Z, Z, Z, Z, Z, Z, Z, Z, Z], [[D.int .i64 g0, D.sl false 10 (List.map (TObject.e false) g0_1)]]⟩
noncomputable abbrev zrh (g0 : Int) (g0_1 : List TObject) (k : List Fr) (t : Bool) (x : Option Res) : Prop := x = some (D.bool t, [], [[D.int .i64 g0, D.sl false 10 (List.map (TObject.e false) g0_1)]])
theorem zri (g0 : Int) (g0_1 : List TObject) (k : List Fr) : Le (zrh g0 g0_1 k) (ziL g0 g0_1) (zln g0 g0_1 k) := by
 unfold ziL zln zrJ
 repeat' (try conv => arg 3; simp (maxSteps := 999999) only [sx, ty, ↓reduceIte, seval, *, ztz, ztA]); first
  | (refine Le.via (zrf _ _ _ _) fun t _ _ hy => ?_; rcases t with t | t <;> (try dsimp only [zgo] at hy; first | subst hy | obtain ⟨_, rfl⟩ := hy))
  | (refine Le.via (zrg _ _ _ _) fun t _ _ hy => ?_; rcases t with t | t <;> (try dsimp only [zgq] at hy; first | subst hy | obtain ⟨_, rfl⟩ := hy))
  | ((with_reducible refine Le.ret ?_); first | exact rfl | exact Pu.mk)
theorem zrj (g0 : Int) (g0_1 : List TObject) : Le (fun r x => x = some (D.bool r, [], [[D.int .i64 g0, D.sl false 10 (List.map (TObject.e false) g0_1)]])) (zmQ g0 g0_1) (zab T 118 [D.ref 0 0] [[D.int .i64 g0, D.sl false 10 (List.map (TObject.e false) g0_1)]]) := by
 unfold zmQ
 refine Le.enter (g := v118) rfl rfl rfl rfl ?_
 repeat' (try conv => arg 3; simp (maxSteps := 999999) only [sx, ty, ↓reduceIte, seval, *, ztz, ztA, v118, zxJ]); first
  | (refine Le.call (zdB _ _ _) fun _ _ _ hy => ?_; obtain ⟨_, rfl⟩ := hy)
  | exact zri _ _ _
  | with_reducible refine Le.bool (fun _ => ?_) (fun _ => ?_)
  | ((with_reducible refine Le.ret ?_); first | exact rfl | exact Pu.mk)
  | with_reducible refine Le.itq (fun _ => ?_) (fun _ => ?_)
theorem zjV (p0 : THeap) : Le (fun r x => Pu (D.bool r) [] x) (zeJ p0) (zab T 88 [D.agg [D.int .i64 p0.Next, D.sl false 10 (List.map (TObject.e false) p0.Objects)]] []) := by
 unfold zeJ
 refine Le.enter (g := v88) rfl rfl rfl rfl ?_
 repeat' (try conv => arg 3; simp (maxSteps := 999999) only [sx, ty, ↓reduceIte, seval, *, v88, zBK]); first
  | (refine Le.call (zrj _ _) fun _ _ _ hy => ?_; subst hy)
  | ((with_reducible refine Le.ret ?_); first | exact rfl | exact Pu.mk)
theorem zui (p0 : TValue) : Le (fun r x => Pu (D.bool r) [] x) (zpY p0) (zab T 156 [D.agg [D.int .i64 p0.Kind, D.int .i64 p0.Num, D.str p0.Text, D.int .i64 p0.Ref]] []) := by
 unfold zpY
 refine Le.enter (g := v156) rfl rfl rfl rfl ?_
 try conv => arg 3; simp (maxSteps := 999999) only [sx, ty, ↓reduceIte, seval, *, v156, zxS]
 ((with_reducible refine Le.ret ?_); first | exact rfl | exact Pu.mk)
noncomputable abbrev zgr (s0 : List ByteArray) (s1 : ByteArray) (s5 : Int) (k : List Fr) : Option Res := go T (enF [.tmp 4] []) zpI (.lp zpJ :: .bl 0 :: .sq (.clr [4,5,6,7,8,9,10,11,12,13,14,15,16,17,18]) :: k) ⟨[.d (D.sl false 1 (List.map D.str s0)), .d (D.str s1), Z, Z, Z, .d (D.int .i64 s5), Z, Z, Z, Z, Z, Z, Z, Z, Z, Z, Z, Z, Z], []⟩
noncomputable abbrev zgs (s0 : List ByteArray) (s1 : ByteArray) (k : List Fr) (t : (Unit ⊕ Int)) (x : Option Res) : Prop := match t with | .inl t => x = bk T (enF [.tmp 4] []) k ⟨[.d (D.sl false 1 (List.map D.str s0)), .d (D.str s1), Z, Z, Z, Z, Z, Z, Z, Z, Z, Z, Z, Z, Z, Z, Z, Z, Z], []⟩ | .inr t => Pu (D.int .i64 t) [] x
theorem zrk (s0 : List ByteArray) (s1 : ByteArray) : ∀ (s5 : Int) (k : List Fr), Le (zgs s0 s1 k) (zkC s0 s1 s5) (zgr s0 s1 s5 k) := by
 intro s5 k
 refine Le.cp (X := zgr s0 s1 s5) (Q := zgs s0 s1) ?_ k
 refine zkC.partial_correctness s0 s1 (motive := fun s5 r => ∀ k : List Fr, zgs s0 s1 k r (zgr s0 s1 s5 k)) ?_ s5
 intro rec hrec s5
 refine Le.pc ?_
 intro k
 unfold zgr zpI
 repeat' (try conv => arg 3; simp (maxSteps := 999999) only [sx, ty, ↓reduceIte, seval, *, zzv]); first
  | with_reducible refine Le.idx fun _ _ _ _ => ?_
  | ((with_reducible refine Le.ret ?_); first | exact rfl | exact Pu.mk)
  | with_reducible refine Le.itq (fun _ => ?_) (fun _ => ?_)
  | exact fun r hr => hrec _ r hr k
theorem zwa (p0 : List ByteArray) (p1 : ByteArray) : Le (fun r x => Pu (D.int .i64 r) [] x) (zst p0 p1) (zab T 249 [D.sl false 1 (List.map D.str p0), D.str p1] []) := by
 unfold zst
 refine Le.enter (g := v249) rfl rfl rfl rfl ?_
 repeat' (try conv => arg 3; simp (maxSteps := 999999) only [sx, ty, ↓reduceIte, seval, *, zzv, v249, zzw]); first
  | (refine Le.via (zrk _ _ _ _) fun t _ _ hy => ?_; rcases t with t | t <;> (try dsimp only [zgs] at hy; first | subst hy | obtain ⟨_, rfl⟩ := hy))
  | ((with_reducible refine Le.ret ?_); first | exact rfl | exact Pu.mk)
noncomputable abbrev zez (s0 : List ByteArray) (s3 : Int) (k : List Fr) : Option Res := go T (enF [.tmp 2] []) zpm (.lp zpn :: .bl 0 :: .sq (.clr [2,3,4,5,6,7,8,9,10,11,12,13,14,15,16,17,18,19,20,21,22,23,24,25]) :: k) ⟨[.d (D.sl false 1 (List.map D.str s0)), Z, Z, .d (D.int .i64 s3), Z, Z, Z, Z, Z, Z, Z, Z, Z, Z, Z, Z, Z, Z, Z, Z, Z, Z, Z, Z, Z, Z], []⟩
noncomputable abbrev zeA (s0 : List ByteArray) (k : List Fr) (t : (Unit ⊕ Bool)) (x : Option Res) : Prop := match t with | .inl t => x = bk T (enF [.tmp 2] []) k ⟨[.d (D.sl false 1 (List.map D.str s0)), Z, Z, Z, Z, Z, Z, Z, Z, Z, Z, Z, Z, Z, Z, Z, Z, Z, Z, Z, Z, Z, Z, Z, Z, Z], []⟩ | .inr t => Pu (D.bool t) [] x
theorem zmV (s0 : List ByteArray) : ∀ (s3 : Int) (k : List Fr), Le (zeA s0 k) (zht s0 s3) (zez s0 s3 k) := by
 intro s3 k
 refine Le.cp (X := zez s0 s3) (Q := zeA s0) ?_ k
 refine zht.partial_correctness s0 (motive := fun s3 r => ∀ k : List Fr, zeA s0 k r (zez s0 s3 k)) ?_ s3
 intro rec hrec s3
 refine Le.pc ?_
 intro k
 unfold zez zpm
 repeat' (try conv => arg 3; simp (maxSteps := 999999) only [sx, ty, ↓reduceIte, seval, *, zyP]); first
  | (refine Le.call (zdU _) fun _ _ _ hy => ?_; obtain ⟨_, rfl⟩ := hy)
  | (refine Le.call (zwa _ _) fun _ _ _ hy => ?_; obtain ⟨_, rfl⟩ := hy)
  | with_reducible refine Le.idx fun _ _ _ _ => ?_
  | with_reducible refine Le.bool (fun _ => ?_) (fun _ => ?_)
  | ((with_reducible refine Le.ret ?_); first | exact rfl | exact Pu.mk)
  | with_reducible refine Le.itq (fun _ => ?_) (fun _ => ?_)
  | exact fun r hr => hrec _ r hr k
theorem zlo (p0 : List ByteArray) : Le (fun r x => Pu (D.bool r) [] x) (ziM p0) (zab T 216 [D.sl false 1 (List.map D.str p0)] []) := by
 unfold ziM
 refine Le.enter (g := v216) rfl rfl rfl rfl ?_
 repeat' (try conv => arg 3; simp (maxSteps := 999999) only [sx, ty, ↓reduceIte, seval, *, zyP, v216, zyQ]); first
  | (refine Le.via (zmV _ _ _) fun t _ _ hy => ?_; rcases t with t | t <;> (try dsimp only [zeA] at hy; first | subst hy | obtain ⟨_, rfl⟩ := hy))
  | ((with_reducible refine Le.ret ?_); first | exact rfl | exact Pu.mk)
noncomputable abbrev zgt (s1 : TFunction) (k : List Fr) : Option Res := go T (enF [.tmp 2] []) zrM k ⟨[Z, .box [D.str s1.Name, D.sl false 1 (List.map D.str s1.Params), D.sl false 1 (List.map D.str s1.Locals), D.str s1.Label], Z, Z, Z, Z, Z, Z, Z, Z, Z, Z, Z, Z, Z, Z, Z, Z, Z, Z, Z, Z, Z, Z, Z, Z, Z, Z, Z, Z, Z, Z, Z], []⟩
noncomputable abbrev zjW (s1 : TFunction) (k : List Fr) (t : Bool) (x : Option Res) : Prop := Pu (D.bool t) [] x
theorem zjX (s1 : TFunction) (k : List Fr) : Le (zjW s1 k) (zfh s1) (zgt s1 k) := by
 unfold zfh zgt zrM
 try conv => arg 3; simp (maxSteps := 999999) only [sx, ty, ↓reduceIte, seval, *]
 refine Le.chk fun h => ?_
 try conv => arg 3; simp (maxSteps := 999999) only [sx, ty, ↓reduceIte, seval, *]
 refine Le.app fun c31 h_1 h_2 => ?_
 replace h_1 : List.map D.str s1.Params ++ List.map D.str s1.Locals = List.map D.str c31 := by rw [h_1, List.map_append] <;> rfl
 replace h_2 : s1.Params.length + s1.Locals.length ≤ most := h_2
 repeat' (try conv => arg 3; simp (maxSteps := 999999) only [sx, ty, ↓reduceIte, seval, *]); first
  | (refine Le.dcall (zlo _) fun _ _ _ hy => ?_; obtain ⟨_, rfl⟩ := hy)
  | ((with_reducible refine Le.ret ?_); first | exact rfl | exact Pu.mk)
theorem zmW (p0 : TFunction) : Le (fun r x => Pu (D.bool r) [] x) (zhu p0) (zab T 157 [D.agg [D.str p0.Name, D.sl false 1 (List.map D.str p0.Params), D.sl false 1 (List.map D.str p0.Locals), D.str p0.Label]] []) := by
 unfold zhu
 refine Le.enter (g := v157) rfl rfl rfl rfl ?_
 repeat' (try conv => arg 3; simp (maxSteps := 999999) only [sx, ty, ↓reduceIte, seval, *, v157, zxT]); first
  | (refine Le.call (zdU _) fun _ _ _ hy => ?_; obtain ⟨_, rfl⟩ := hy)
  | exact zjX _ _
  | with_reducible refine Le.bool (fun _ => ?_) (fun _ => ?_)
  | ((with_reducible refine Le.ret ?_); first | exact rfl | exact Pu.mk)
  | with_reducible refine Le.itq (fun _ => ?_) (fun _ => ?_)
theorem zsw (p0 : TRecordType) : Le (fun r x => Pu (D.bool r) [] x) (zmR p0) (zab T 158 [D.agg [D.str p0.Name, D.sl false 1 (List.map D.str p0.Fields)]] []) := by
 unfold zmR
 refine Le.enter (g := v158) rfl rfl rfl rfl ?_
 repeat' (try conv => arg 3; simp (maxSteps := 999999) only [sx, ty, ↓reduceIte, seval, *, v158, zxU]); first
  | (refine Le.call (zdU _) fun _ _ _ hy => ?_; obtain ⟨_, rfl⟩ := hy)
  | (refine Le.call (zdB _ _ _) fun _ _ _ hy => ?_; obtain ⟨_, rfl⟩ := hy)
  | (refine Le.call (zlo _) fun _ _ _ hy => ?_; obtain ⟨_, rfl⟩ := hy)
  | with_reducible refine Le.bool (fun _ => ?_) (fun _ => ?_)
  | ((with_reducible refine Le.ret ?_); first | exact rfl | exact Pu.mk)
noncomputable abbrev zdi (s1 : TScope) (s3 : Int) (k : List Fr) : Option Res := go T (enF [.tmp 2] []) ztj (.lp ztk :: .bl 0 :: .sq (.clr [0,2,3,4,7,8,9,10,11,12,13,14,15,16,17,18,19,20,21,22,23,24,25,26,27,28,29,30,31,32,33,34,35,36,37,38,39,40,41,42,43,44,45,46,47,48,49,50,51,52,53,54,55,56,57,58,59,60,61,62,63,64,65]) :: k) ⟨[Z, .box [D.sl false 5 (List.map (TBinding.e false) s1.Vars), D.sl false 4 (List.map (TFunction.e false) s1.Functions), D.sl false 2 (List.map (TRecordType.e false) s1.Types)], Z, .d (D.int .i64 s3), Z, Z, Z, Z, Z, Z, Z, Z, Z, Z, Z, Z, Z, Z, Z, Z, Z, Z, Z, Z, Z, Z, Z, Z, Z, Z, Z, Z, Z, Z, Z, Z, Z, Z, Z, Z, Z, Z, Z, Z, Z, Z, Z, Z, Z, Z, Z, Z, Z, Z, Z, Z, Z, Z, Z, Z, Z, Z, Z, Z, Z, Z, Z, Z, Z, Z, Z, Z, Z, Z, Z, Z, Z, Z, Z, Z, Z, Z, Z, Z, Z, Z, Z, Z, Z, Z, Z, Z, Z, Z, Z, Z, Z, Z, Z, Z, Z, Z, Z, Z, Z, Z, Z, Z, Z, Z, Z, Z, Z, Z, Z, Z, Z, Z, Z, Z, Z, Z, Z, Z, Z, Z, Z, Z, Z, Z, Z, Z, Z, Z], []⟩
noncomputable abbrev zdj (s1 : TScope) (k : List Fr) (t : (Unit ⊕ Bool)) (x : Option Res) : Prop := match t with | .inl t => x = bk T (enF [.tmp 2] []) k ⟨[Z, .box [D.sl false 5 (List.map (TBinding.e false) s1.Vars), D.sl false 4 (List.map (TFunction.e false) s1.Functions), D.sl false 2 (List.map (TRecordType.e false) s1.Types)], Z, Z, Z, Z, Z, Z, Z, Z, Z, Z, Z, Z, Z, Z, Z, Z, Z, Z, Z, Z, Z, Z, Z, Z, Z, Z, Z, Z, Z, Z, Z, Z, Z, Z, Z, Z, Z, Z, Z, Z, Z, Z, Z, Z, Z, Z, Z, Z, Z, Z, Z, Z, Z, Z, Z, Z, Z, Z, Z, Z, Z, Z, Z, Z, Z, Z, Z, Z, Z, Z, Z, Z, Z, Z, Z, Z, Z, Z, Z, Z, Z, Z, Z, Z, Z, Z, Z, Z, Z, Z, Z, Z, Z, Z, Z, Z, Z, Z, Z, Z, Z, Z, Z, Z, Z, Z, Z, Z, Z, Z, Z, Z, Z, Z, Z, Z, Z, Z, Z, Z, Z, Z, Z, Z, Z, Z, Z, Z, Z, Z, Z, Z], []⟩ | .inr t => Pu (D.bool t) [] x
theorem zkL (s1 : TScope) : ∀ (s3 : Int) (k : List Fr), Le (zdj s1 k) (zeg s1 s3) (zdi s1 s3 k) := by
 intro s3 k
 refine Le.cp (X := zdi s1 s3) (Q := zdj s1) ?_ k
 refine zeg.partial_correctness s1 (motive := fun s3 r => ∀ k : List Fr, zdj s1 k r (zdi s1 s3 k)) ?_ s3
 intro rec hrec s3
 refine Le.pc ?_
 intro k
 unfold zdi ztj
 repeat' (try conv => arg 3; simp (maxSteps := 999999) only [sx, ty, ↓reduceIte, seval, *, zvk, zvl, zvm]); first
  | (refine Le.dcall (zdU _) fun _ _ _ hy => ?_; obtain ⟨_, rfl⟩ := hy)
  | (refine Le.dcall (zeS _) fun _ _ _ hy => ?_; obtain ⟨_, rfl⟩ := hy)
  | (refine Le.dcall (zui _) fun _ _ _ hy => ?_; obtain ⟨_, rfl⟩ := hy)
  | with_reducible refine Le.idx fun _ _ _ _ => ?_
  | with_reducible refine Le.bool (fun _ => ?_) (fun _ => ?_)
  | ((with_reducible refine Le.ret ?_); first | exact rfl | exact Pu.mk)
  | with_reducible refine Le.itq (fun _ => ?_) (fun _ => ?_)
  | exact fun r hr => hrec _ r hr k
noncomputable abbrev zdk (s1 : TScope) (s5 : Int) (k : List Fr) : Option Res := go T (enF [.tmp 2] []) ztl (.lp ztm :: .bl 2 :: .sq (.clr [0,2,3,4,5,7,8,9,10,11,12,13,14,15,16,17,18,19,20,21,22,23,24,25,26,27,28,29,30,31,32,33,34,35,36,37,38,39,40,41,42,43,44,45,46,47,48,49,50,51,52,53,54,55,56,57,58,59,60,61,62,63,64,65,66,67,68,69,70,71,72,73,74,75,76,77,78,79,80,81,82,83,84,85,86,87,88,89,90,91,92,93,94,95,96,97,98,99]) :: k) ⟨[Z, .box [D.sl false 5 (List.map (TBinding.e false) s1.Vars), D.sl false 4 (List.map (TFunction.e false) s1.Functions), D.sl false 2 (List.map (TRecordType.e false) s1.Types)], Z, Z, Z, .d (D.int .i64 s5), Z, Z, Z, Z, Z, Z, Z, Z, Z, Z, Z, Z, Z, Z, Z, Z, Z, Z, Z, Z, Z, Z, Z, Z, Z, Z, Z, Z, Z, Z, Z, Z, Z, Z, Z, Z, Z, Z, Z, Z, Z, Z, Z, Z, Z, Z, Z, Z, Z, Z, Z, Z, Z, Z, Z, Z, Z, Z, Z, Z, Z, Z, Z, Z, Z, Z, Z, Z, Z, Z, Z, Z, Z, Z, Z, Z, Z, Z, Z, Z, Z, Z, Z, Z, Z, Z, Z, Z, Z, Z, Z, Z, Z, Z, Z, Z, Z, Z, Z, Z, Z, Z, Z, Z, Z, Z, Z, Z, Z, Z, Z, Z, Z, Z, Z, Z, Z, Z, Z, Z, Z, Z, Z, Z, Z, Z, Z, Z], []⟩
noncomputable abbrev zdl (s1 : TScope) (k : List Fr) (t : (Unit ⊕ Bool)) (x : Option Res) : Prop := match t with | .inl t => x = bk T (enF [.tmp 2] []) k ⟨[Z, .box [D.sl false 5 (List.map (TBinding.e false) s1.Vars), D.sl false 4 (List.map (TFunction.e false) s1.Functions), D.sl false 2 (List.map (TRecordType.e false) s1.Types)], Z, Z, Z, Z, Z, Z, Z, Z, Z, Z, Z, Z, Z, Z, Z, Z, Z, Z, Z, Z, Z, Z, Z, Z, Z, Z, Z, Z, Z, Z, Z, Z, Z, Z, Z, Z, Z, Z, Z, Z, Z, Z, Z, Z, Z, Z, Z, Z, Z, Z, Z, Z, Z, Z, Z, Z, Z, Z, Z, Z, Z, Z, Z, Z, Z, Z, Z, Z, Z, Z, Z, Z, Z, Z, Z, Z, Z, Z, Z, Z, Z, Z, Z, Z, Z, Z, Z, Z, Z, Z, Z, Z, Z, Z, Z, Z, Z, Z, Z, Z, Z, Z, Z, Z, Z, Z, Z, Z, Z, Z, Z, Z, Z, Z, Z, Z, Z, Z, Z, Z, Z, Z, Z, Z, Z, Z, Z, Z, Z, Z, Z, Z], []⟩ | .inr t => Pu (D.bool t) [] x
theorem zkM (s1 : TScope) : ∀ (s5 : Int) (k : List Fr), Le (zdl s1 k) (zeh s1 s5) (zdk s1 s5 k) := by
 intro s5 k
 refine Le.cp (X := zdk s1 s5) (Q := zdl s1) ?_ k
 refine zeh.partial_correctness s1 (motive := fun s5 r => ∀ k : List Fr, zdl s1 k r (zdk s1 s5 k)) ?_ s5
 intro rec hrec s5
 refine Le.pc ?_
 intro k
 unfold zdk ztl
 repeat' (try conv => arg 3; simp (maxSteps := 999999) only [sx, ty, ↓reduceIte, seval, *, zvk, zvl, zvm]); first
  | (refine Le.dcall (zmW _) fun _ _ _ hy => ?_; obtain ⟨_, rfl⟩ := hy)
  | with_reducible refine Le.idx fun _ _ _ _ => ?_
  | with_reducible refine Le.bool (fun _ => ?_) (fun _ => ?_)
  | ((with_reducible refine Le.ret ?_); first | exact rfl | exact Pu.mk)
  | with_reducible refine Le.itq (fun _ => ?_) (fun _ => ?_)
  | exact fun r hr => hrec _ r hr k
noncomputable abbrev zdm (s1 : TScope) (s6 : Int) (k : List Fr) : Option Res := go T (enF [.tmp 2] []) ztn (.lp zto :: .bl 4 :: .sq (.clr [0,1,2,3,4,5,6,7,8,9,10,11,12,13,14,15,16,17,18,19,20,21,22,23,24,25,26,27,28,29,30,31,32,33,34,35,36,37,38,39,40,41,42,43,44,45,46,47,48,49,50,51,52,53,54,55,56,57,58,59,60,61,62,63,64,65,66,67,68,69,70,71,72,73,74,75,76,77,78,79,80,81,82,83,84,85,86,87,88,89,90,91,92,93,94,95,96,97,98,99,100,101,102,103,104,105,106,107,108,109,110,111,112,113,114,115,116,117,118,119,120,121,122,123,124,125,126,127,128,129,130,131,132,133]) :: k) ⟨[Z, .box [D.sl false 5 (List.map (TBinding.e false) s1.Vars), D.sl false 4 (List.map (TFunction.e false) s1.Functions), D.sl false 2 (List.map (TRecordType.e false) s1.Types)], Z, Z, Z, Z, .d (D.int .i64 s6), Z, Z, Z, Z, Z, Z, Z, Z, Z, Z, Z, Z, Z, Z, Z, Z, Z, Z, Z, Z, Z, Z, Z, Z, Z, Z, Z, Z, Z, Z, Z, Z, Z, Z, Z, Z, Z, Z, Z, Z, Z, Z, Z, Z, Z, Z, Z, Z, Z, Z, Z, Z, Z, Z, Z, Z, Z, Z, Z, Z, Z, Z, Z, Z, Z, Z, Z, Z, Z, Z, Z, Z, Z, Z, Z, Z, Z, Z, Z, Z, Z, Z, Z, Z, Z, Z, Z, Z, Z, Z, Z, Z, Z, Z, Z, Z, Z, Z, Z, Z, Z, Z, Z, Z, Z, Z, Z, Z, Z, Z, Z, Z, Z, Z, Z, Z, Z, Z, Z, Z, Z, Z, Z, Z, Z, Z, Z], []⟩
noncomputable abbrev zdn (s1 : TScope) (k : List Fr) (t : (Unit ⊕ Bool)) (x : Option Res) : Prop := match t with | .inl t => x = bk T (enF [.tmp 2] []) k ⟨[Z, Z, Z, Z, Z, Z, Z, Z, Z, Z, Z, Z, Z, Z, Z, Z, Z, Z, Z, Z, Z, Z, Z, Z, Z, Z, Z, Z, Z, Z, Z, Z, Z, Z, Z, Z, Z, Z, Z, Z, Z, Z, Z, Z, Z, Z, Z, Z, Z, Z, Z, Z, Z, Z, Z, Z, Z, Z, Z, Z, Z, Z, Z, Z, Z, Z, Z, Z, Z, Z, Z, Z, Z, Z, Z, Z, Z, Z, Z, Z, Z, Z, Z, Z, Z, Z, Z, Z, Z, Z, Z, Z, Z, Z, Z, Z, Z, Z, Z, Z, Z, Z, Z, Z, Z, Z, Z, Z, Z, Z, Z, Z, Z, Z, Z, Z, Z, Z, Z, Z, Z, Z, Z, Z, Z, Z, Z, Z, Z, Z, Z, Z, Z, Z], []⟩ | .inr t => Pu (D.bool t) [] x
theorem zkN (s1 : TScope) : ∀ (s6 : Int) (k : List Fr), Le (zdn s1 k) (zei s1 s6) (zdm s1 s6 k) := by
 intro s6 k
 refine Le.cp (X := zdm s1 s6) (Q := zdn s1) ?_ k
 refine zei.partial_correctness s1 (motive := fun s6 r => ∀ k : List Fr, zdn s1 k r (zdm s1 s6 k)) ?_ s6
 intro rec hrec s6
 refine Le.pc ?_
 intro k
 unfold zdm ztn
 repeat' (try conv => arg 3; simp (maxSteps := 999999) only [sx, ty, ↓reduceIte, seval, *, zvk, zvl, zvm]); first
  | (refine Le.dcall (zsw _) fun _ _ _ hy => ?_; obtain ⟨_, rfl⟩ := hy)
  | with_reducible refine Le.idx fun _ _ _ _ => ?_
  | with_reducible refine Le.bool (fun _ => ?_) (fun _ => ?_)
  | ((with_reducible refine Le.ret ?_); first | exact rfl | exact Pu.mk)
  | with_reducible refine Le.itq (fun _ => ?_) (fun _ => ?_)
  | exact fun r hr => hrec _ r hr k
noncomputable abbrev zgX (s1 : TScope) (k : List Fr) : Option Res := go T (enF [.tmp 2] []) zvn k ⟨[Z, .box [D.sl false 5 (List.map (TBinding.e false) s1.Vars), D.sl false 4 (List.map (TFunction.e false) s1.Functions), D.sl false 2 (List.map (TRecordType.e false) s1.Types)], Z, Z, Z, Z, Z, Z, Z, Z, Z, Z, Z, Z, Z, Z, Z, Z, Z, Z, Z, Z, Z, Z, Z, Z, Z, Z, Z, Z, Z, Z, Z, Z, Z, Z, Z, Z, Z, Z, Z, Z, Z, Z, Z, Z, Z, Z, Z, Z, Z, Z, Z, Z, Z, Z, Z, Z, Z, Z, Z, Z, Z, Z, Z, Z, Z, Z, Z, Z, Z, Z, Z, Z, Z, Z, Z, Z, Z, Z, Z, Z, Z, Z, Z, Z, Z, Z, Z, Z, Z, Z, Z, Z, Z, Z, Z, Z, Z, Z, Z, Z, Z, Z, Z, Z, Z, Z, Z, Z, Z, Z, Z, Z, Z, Z, Z, Z, Z, Z, Z, Z, Z, Z, Z, Z, Z, Z, Z, Z, Z, Z, Z, Z], []⟩
noncomputable abbrev zkO (s1 : TScope) (k : List Fr) (t : Bool) (x : Option Res) : Prop := Pu (D.bool t) [] x
theorem zkP (s1 : TScope) (k : List Fr) : Le (zkO s1 k) (zej s1) (zgX s1 k) := by
 unfold zej zgX zvn
 repeat' (try conv => arg 3; simp (maxSteps := 999999) only [sx, ty, ↓reduceIte, seval, *, zvk, zvl, zvm]); first
  | (refine Le.via (zkL _ _ _) fun t _ _ hy => ?_; rcases t with t | t <;> (try dsimp only [zdj] at hy; first | subst hy | obtain ⟨_, rfl⟩ := hy))
  | (refine Le.via (zkM _ _ _) fun t _ _ hy => ?_; rcases t with t | t <;> (try dsimp only [zdl] at hy; first | subst hy | obtain ⟨_, rfl⟩ := hy))
  | (refine Le.via (zkN _ _ _) fun t _ _ hy => ?_; rcases t with t | t <;> (try dsimp only [zdn] at hy; first | subst hy | obtain ⟨_, rfl⟩ := hy))
  | ((with_reducible refine Le.ret ?_); first | exact rfl | exact Pu.mk)
theorem zjb (p0 : TScope) : Le (fun r x => Pu (D.bool r) [] x) (zdT p0) (zab T 89 [D.agg [D.sl false 5 (List.map (TBinding.e false) p0.Vars), D.sl false 4 (List.map (TFunction.e false) p0.Functions), D.sl false 2 (List.map (TRecordType.e false) p0.Types)]] []) := by
 unfold zdT
 refine Le.enter (g := v89) rfl rfl rfl rfl ?_
 repeat' (try conv => arg 3; simp (maxSteps := 999999) only [sx, ty, ↓reduceIte, seval, *, zvk, zvl, zvm, v89, zBL]); first
  | exact zkP _ _
  | ((with_reducible refine Le.ret ?_); first | exact rfl | exact Pu.mk)
  | with_reducible refine Le.itq (fun _ => ?_) (fun _ => ?_)
noncomputable abbrev zeB (s0 : List ByteArray) (s1 : Int) (s2 : Int) (s7 : Int) (k : List Fr) : Option Res := go T (enF [.tmp 6] []) zpo (.lp zpp :: .bl 0 :: .sq (.clr [6,7,8,9,10,11,12,13,14,15,16,17,18,19,20,21,22,23,24]) :: k) ⟨[.d (D.sl false 1 (List.map D.str s0)), .d (D.int .i64 s1), .d (D.int .i64 s2), Z, Z, Z, Z, .d (D.int .i64 s7), Z, Z, Z, Z, Z, Z, Z, Z, Z, Z, Z, Z, Z, Z, Z, Z, Z], []⟩
noncomputable abbrev zeC (s0 : List ByteArray) (s1 : Int) (s2 : Int) (k : List Fr) (t : (Unit ⊕ Bool)) (x : Option Res) : Prop := match t with | .inl t => x = bk T (enF [.tmp 6] []) k ⟨[.d (D.sl false 1 (List.map D.str s0)), .d (D.int .i64 s1), .d (D.int .i64 s2), Z, Z, Z, Z, Z, Z, Z, Z, Z, Z, Z, Z, Z, Z, Z, Z, Z, Z, Z, Z, Z, Z], []⟩ | .inr t => Pu (D.bool t) [] x
theorem zmX (s0 : List ByteArray) (s1 : Int) (s2 : Int) : ∀ (s7 : Int) (k : List Fr), Le (zeC s0 s1 s2 k) (zek s0 s1 s2 s7) (zeB s0 s1 s2 s7 k) := by
 intro s7 k
 refine Le.cp (X := zeB s0 s1 s2 s7) (Q := zeC s0 s1 s2) ?_ k
 refine zek.partial_correctness s0 s1 s2 (motive := fun s7 r => ∀ k : List Fr, zeC s0 s1 s2 k r (zeB s0 s1 s2 s7 k)) ?_ s7
 intro rec hrec s7
 refine Le.pc ?_
 intro k
 unfold zeB zpo
 repeat' (try conv => arg 3; simp (maxSteps := 999999) only [sx, ty, ↓reduceIte, seval, *, zyR]); first
  | with_reducible refine Le.idx fun _ _ _ _ => ?_
  | ((with_reducible refine Le.ret ?_); first | exact rfl | exact Pu.mk)
  | with_reducible refine Le.itq (fun _ => ?_) (fun _ => ?_)
  | exact fun r hr => hrec _ r hr k
theorem zlp (p0 : List ByteArray) (p1 : Int) (p2 : Int) : Le (fun r x => Pu (D.bool r) [] x) (zeK p0 p1 p2) (zab T 217 [D.sl false 1 (List.map D.str p0), D.int .i64 p1, D.int .i64 p2] []) := by
 unfold zeK
 refine Le.enter (g := v217) rfl rfl rfl rfl ?_
 repeat' (try conv => arg 3; simp (maxSteps := 999999) only [sx, ty, ↓reduceIte, seval, *, zyR, v217, zyS]); first
  | (refine Le.via (zmX _ _ _ _ _) fun t _ _ hy => ?_; rcases t with t | t <;> (try dsimp only [zeC] at hy; first | subst hy | obtain ⟨_, rfl⟩ := hy))
  | ((with_reducible refine Le.ret ?_); first | exact rfl | exact Pu.mk)
  | with_reducible refine Le.itq (fun _ => ?_) (fun _ => ?_)
noncomputable abbrev zjc (s1 : TFile) (k : List Fr) : Option Res := go T (enF [.tmp 2] []) zrY k ⟨[Z, .box [D.str s1.Name, D.sl false 1 (List.map D.str s1.Lines), D.int .i64 s1.Mode, D.int .i64 s1.At], Z, Z, Z, Z, Z, Z, Z, Z, Z, Z, Z, Z, Z, Z, Z, Z, Z, Z, Z, Z, Z, Z, Z, Z, Z, Z, Z, Z, Z, Z, Z, Z, Z], []⟩
noncomputable abbrev zns (s1 : TFile) (k : List Fr) (t : Bool) (x : Option Res) : Prop := Pu (D.bool t) [] x
theorem znt (s1 : TFile) (k : List Fr) : Le (zns s1 k) (zii s1) (zjc s1 k) := by
 unfold zii zjc zrY
 repeat' (try conv => arg 3; simp (maxSteps := 999999) only [sx, ty, ↓reduceIte, seval, *]); first
  | (refine Le.call (zdB _ _ _) fun _ _ _ hy => ?_; obtain ⟨_, rfl⟩ := hy)
  | with_reducible refine Le.bool (fun _ => ?_) (fun _ => ?_)
  | ((with_reducible refine Le.ret ?_); first | exact rfl | exact Pu.mk)
  | with_reducible refine Le.itq (fun _ => ?_) (fun _ => ?_)
theorem zsx (p0 : TFile) : Le (fun r x => Pu (D.bool r) [] x) (zmS p0) (zab T 218 [D.agg [D.str p0.Name, D.sl false 1 (List.map D.str p0.Lines), D.int .i64 p0.Mode, D.int .i64 p0.At]] []) := by
 unfold zmS
 refine Le.enter (g := v218) rfl rfl rfl rfl ?_
 repeat' (try conv => arg 3; simp (maxSteps := 999999) only [sx, ty, ↓reduceIte, seval, *, v218, zyT]); first
  | (refine Le.call (zdU _) fun _ _ _ hy => ?_; obtain ⟨_, rfl⟩ := hy)
  | (refine Le.call (zlp _ _ _) fun _ _ _ hy => ?_; obtain ⟨_, rfl⟩ := hy)
  | (refine Le.call (zdB _ _ _) fun _ _ _ hy => ?_; obtain ⟨_, rfl⟩ := hy)
  | exact znt _ _
  | with_reducible refine Le.bool (fun _ => ?_) (fun _ => ?_)
  | ((with_reducible refine Le.ret ?_); first | exact rfl | exact Pu.mk)
noncomputable abbrev zgu (g0 : List ByteArray) (g0_1 : Int) (g0_2 : List ByteArray) (g0_3 : List TFile) (g0_4 : List ByteArray) (s3 : Int) (k : List Fr) : Option Res := go T (enF [.tmp 2] []) zoQ (.lp zoR :: .bl 0 :: .sq (.clr [2,3,4,5,6,7,8,9,10,11,12,13,14,15,16,17,18,19,20,21,22,23,24,25,26,27,28,29,30,31,32,33,34,35,36,37,38,39,40,41,42,43,44,45,46,47,48,49,50,51,52,53,54,55,56,57,58,59,60,61,62,63,64,65,66,67,68,69,70,71,72,73,74,75,76,77,78,79,80,81,82,83,84,85,86,87,88]) :: k) ⟨[.d (D.ref 0 0), Z, Z, .d (D.int .i64 s3), Z, Z, Z, Z, Z, Z, Z, Z, Z, Z, Z, Z, Z, Z, Z, Z, Z, Z, Z, Z, Z, Z, Z, Z, Z, Z, Z, Z, Z, Z, Z, Z, Z, Z, Z, Z, Z, Z, Z, Z, Z, Z, Z, Z, Z, Z, Z, Z, Z, Z, Z, Z, Z, Z, Z, Z, Z, Z, Z, Z, Z, Z, Z, Z, Z, Z, Z, Z, Z, Z, Z, Z, Z, Z, Z, Z, Z, Z, Z, Z, Z, Z, Z, Z, Z], [[D.sl false 1 (List.map D.str g0), D.int .i64 g0_1, D.sl false 1 (List.map D.str g0_2), D.sl false 4 (List.map (TFile.e false) g0_3), D.sl false 1 (List.map D.str g0_4)]]⟩
noncomputable abbrev zgv (g0 : List ByteArray) (g0_1 : Int) (g0_2 : List ByteArray) (g0_3 : List TFile) (g0_4 : List ByteArray) (k : List Fr) (t : (Unit ⊕ Bool)) (x : Option Res) : Prop := match t with | .inl t => x = bk T (enF [.tmp 2] []) k ⟨[.d (D.ref 0 0), Z, Z, Z, Z, Z, Z, Z, Z, Z, Z, Z, Z, Z, Z, Z, Z, Z, Z, Z, Z, Z, Z, Z, Z, Z, Z, Z, Z, Z, Z, Z, Z, Z, Z, Z, Z, Z, Z, Z, Z, Z, Z, Z, Z, Z, Z, Z, Z, Z, Z, Z, Z, Z, Z, Z, Z, Z, Z, Z, Z, Z, Z, Z, Z, Z, Z, Z, Z, Z, Z, Z, Z, Z, Z, Z, Z, Z, Z, Z, Z, Z, Z, Z, Z, Z, Z, Z, Z], [[D.sl false 1 (List.map D.str g0), D.int .i64 g0_1, D.sl false 1 (List.map D.str g0_2), D.sl false 4 (List.map (TFile.e false) g0_3), D.sl false 1 (List.map D.str g0_4)]]⟩ | .inr t => x = some (D.bool t, [], [[D.sl false 1 (List.map D.str g0), D.int .i64 g0_1, D.sl false 1 (List.map D.str g0_2), D.sl false 4 (List.map (TFile.e false) g0_3), D.sl false 1 (List.map D.str g0_4)]])
theorem zrl (g0 : List ByteArray) (g0_1 : Int) (g0_2 : List ByteArray) (g0_3 : List TFile) (g0_4 : List ByteArray) : ∀ (s3 : Int) (k : List Fr), Le (zgv g0 g0_1 g0_2 g0_3 g0_4 k) (ziN g0 g0_1 g0_2 g0_3 g0_4 s3) (zgu g0 g0_1 g0_2 g0_3 g0_4 s3 k) := by
 intro s3 k
 refine Le.cp (X := zgu g0 g0_1 g0_2 g0_3 g0_4 s3) (Q := zgv g0 g0_1 g0_2 g0_3 g0_4) ?_ k
 refine ziN.partial_correctness g0 g0_1 g0_2 g0_3 g0_4 (motive := fun s3 r => ∀ k : List Fr, zgv g0 g0_1 g0_2 g0_3 g0_4 k r (zgu g0 g0_1 g0_2 g0_3 g0_4 s3 k)) ?_ s3
 intro rec hrec s3
 refine Le.pc ?_
 intro k
 unfold zgu zoQ
 repeat' (try conv => arg 3; simp (maxSteps := 999999) only [sx, ty, ↓reduceIte, seval, *, zvL]); first
  | (refine Le.dcall (zsx _) fun _ _ _ hy => ?_; obtain ⟨_, rfl⟩ := hy)
  | with_reducible refine Le.idx fun _ _ _ _ => ?_
  | with_reducible refine Le.bool (fun _ => ?_) (fun _ => ?_)
  | ((with_reducible refine Le.ret ?_); first | exact rfl | exact Pu.mk)
  | with_reducible refine Le.itq (fun _ => ?_) (fun _ => ?_)
  | exact fun r hr => hrec _ r hr k
noncomputable abbrev zlq (g0 : List ByteArray) (g0_1 : Int) (g0_2 : List ByteArray) (g0_3 : List TFile) (g0_4 : List ByteArray) (k : List Fr) : Option Res := go T (enF [.tmp 2] []) zrN k ⟨[.d (D.ref 0 0), Z, Z, Z, Z, Z, Z, Z, Z, Z, Z, Z, Z, Z, Z, Z, Z, Z, Z, Z, Z, Z, Z, Z, Z, Z, Z, Z, Z, Z, Z, Z, Z, Z, Z, Z, Z, Z, Z, Z, Z, Z, Z, Z, Z, Z, Z, Z, Z, Z, Z, Z, Z, Z, Z, Z, Z, Z, Z, Z, Z, Z, Z, Z, Z, Z, Z, Z, Z, Z, Z, Z, Z, Z, Z, Z, Z, Z, Z, Z, Z, Z, Z, Z, Z, Z, Z, Z, Z], [[D.sl false 1 (List.map D.str g0), D.int .i64 g0_1, D.sl false 1 (List.map D.str g0_2), D.sl false 4 (List.map (TFile.e false) g0_3), D.sl false 1 (List.map D.str g0_4)]]⟩
noncomputable abbrev zrm (g0 : List ByteArray) (g0_1 : Int) (g0_2 : List ByteArray) (g0_3 : List TFile) (g0_4 : List ByteArray) (k : List Fr) (t : Bool) (x : Option Res) : Prop := x = some (D.bool t, [], [[D.sl false 1 (List.map D.str g0), D.int .i64 g0_1, D.sl false 1 (List.map D.str g0_2), D.sl false 4 (List.map (TFile.e false) g0_3), D.sl false 1 (List.map D.str g0_4)]])
theorem zrn (g0 : List ByteArray) (g0_1 : Int) (g0_2 : List ByteArray) (g0_3 : List TFile) (g0_4 : List ByteArray) (k : List Fr) : Le (zrm g0 g0_1 g0_2 g0_3 g0_4 k) (ziO g0 g0_1 g0_2 g0_3 g0_4) (zlq g0 g0_1 g0_2 g0_3 g0_4 k) := by
 unfold ziO zlq zrN
 repeat' (try conv => arg 3; simp (maxSteps := 999999) only [sx, ty, ↓reduceIte, seval, *, zvL]); first
  | (refine Le.via (zrl _ _ _ _ _ _ _) fun t _ _ hy => ?_; rcases t with t | t <;> (try dsimp only [zgv] at hy; first | subst hy | obtain ⟨_, rfl⟩ := hy))
  | ((with_reducible refine Le.ret ?_); first | exact rfl | exact Pu.mk)
theorem zwb (g0 : List ByteArray) (g0_1 : Int) (g0_2 : List ByteArray) (g0_3 : List TFile) (g0_4 : List ByteArray) : Le (fun r x => x = some (D.bool r, [], [[D.sl false 1 (List.map D.str g0), D.int .i64 g0_1, D.sl false 1 (List.map D.str g0_2), D.sl false 4 (List.map (TFile.e false) g0_3), D.sl false 1 (List.map D.str g0_4)]])) (zpZ g0 g0_1 g0_2 g0_3 g0_4) (zab T 159 [D.ref 0 0] [[D.sl false 1 (List.map D.str g0), D.int .i64 g0_1, D.sl false 1 (List.map D.str g0_2), D.sl false 4 (List.map (TFile.e false) g0_3), D.sl false 1 (List.map D.str g0_4)]]) := by
 unfold zpZ
 refine Le.enter (g := v159) rfl rfl rfl rfl ?_
 repeat' (try conv => arg 3; simp (maxSteps := 999999) only [sx, ty, ↓reduceIte, seval, *, zvL, v159, zxV]); first
  | (refine Le.dcall (zlp _ _ _) fun _ _ _ hy => ?_; obtain ⟨_, rfl⟩ := hy)
  | (refine Le.dcall (zdB _ _ _) fun _ _ _ hy => ?_; obtain ⟨_, rfl⟩ := hy)
  | exact zrn _ _ _ _ _ _
  | with_reducible refine Le.bool (fun _ => ?_) (fun _ => ?_)
  | ((with_reducible refine Le.ret ?_); first | exact rfl | exact Pu.mk)
  | with_reducible refine Le.itq (fun _ => ?_) (fun _ => ?_)
theorem zlx (p0 : TConsole) : Le (fun r x => Pu (D.bool r) [] x) (zdz p0) (zab T 90 [D.agg [D.sl false 1 (List.map D.str p0.Input), D.int .i64 p0.At, D.sl false 1 (List.map D.str p0.Output), D.sl false 4 (List.map (TFile.e false) p0.Files), D.sl false 1 (List.map D.str p0.Trace)]] []) := by
 unfold zdz
 refine Le.enter (g := v90) rfl rfl rfl rfl ?_
 repeat' (try conv => arg 3; simp (maxSteps := 999999) only [sx, ty, ↓reduceIte, seval, *, v90, zBM]); first
  | (refine Le.call (zwb _ _ _ _ _) fun _ _ _ hy => ?_; subst hy)
  | ((with_reducible refine Le.ret ?_); first | exact rfl | exact Pu.mk)
noncomputable abbrev zdo (s1 : TScope) (s3 : List TValue) (s4 : Int) (k : List Fr) : Option Res := go T (enF [.tmp 2] []) ztr (.lp zts :: .bl 0 :: .sq (.clr [0,1,2,4,5,6,7,8,9,10,11,12,13,14,15,16,17,18,19,20,21,22,23,24]) :: k) ⟨[Z, .box [D.sl false 5 (List.map (TBinding.e false) s1.Vars), D.sl false 4 (List.map (TFunction.e false) s1.Functions), D.sl false 2 (List.map (TRecordType.e false) s1.Types)], Z, .d (D.sl true 4 (List.map (TValue.e false) s3)), .d (D.int .i64 s4), Z, Z, Z, Z, Z, Z, Z, Z, Z, Z, Z, Z, Z, Z, Z, Z, Z, Z, Z, Z, Z], []⟩
noncomputable abbrev zdp (s1 : TScope) (k : List Fr) (t : ((List TValue))) (x : Option Res) : Prop := x = bk T (enF [.tmp 2] []) k ⟨[Z, Z, Z, .d (D.sl true 4 (List.map (TValue.e false) t)), Z, Z, Z, Z, Z, Z, Z, Z, Z, Z, Z, Z, Z, Z, Z, Z, Z, Z, Z, Z, Z, Z], []⟩
theorem zkQ (s1 : TScope) : ∀ (s3 : List TValue) (s4 : Int) (k : List Fr), Le (zdp s1 k) (zfO s1 s3 s4) (zdo s1 s3 s4 k) := by
 intro s3 s4 k
 refine Le.cp (X := zdo s1 s3 s4) (Q := zdp s1) ?_ k
 refine zfO.partial_correctness s1 (motive := fun s3 s4 r => ∀ k : List Fr, zdp s1 k r (zdo s1 s3 s4 k)) ?_ s3 s4
 intro rec hrec s3 s4
 refine Le.pc ?_
 intro k
 unfold zdo ztr
 try conv => arg 3; simp (maxSteps := 999999) only [sx, ty, ↓reduceIte, seval, *, ztY]
 refine Le.itq (fun h => ?_) (fun h => ?_)
 ·try conv => arg 3; simp (maxSteps := 999999) only [sx, ty, ↓reduceIte, seval, *, ztY]
  refine Le.idx fun a20 h_1 h_2 h_3 => ?_
  try conv => arg 3; simp (maxSteps := 999999) only [sx, ty, ↓reduceIte, seval, *, ztY]
  refine Le.app fun c24 h_4 h_5 => ?_
  replace h_4 : List.map (TValue.e false) s3 ++ [D.agg [D.int .i64 a20.Value.Kind, D.int .i64 a20.Value.Num, D.str a20.Value.Text, D.int .i64 a20.Value.Ref]] = List.map (TValue.e false) c24 := by rw [h_4, List.map_append] <;> rfl
  replace h_5 : s3.length + 1 ≤ most := h_5
  try conv => arg 3; simp (maxSteps := 999999) only [sx, ty, ↓reduceIte, seval, *, ztY]
  exact fun r hr => hrec _ _ r hr k
 ·try conv => arg 3; simp (maxSteps := 999999) only [sx, ty, ↓reduceIte, seval, *, ztY]
  ((with_reducible refine Le.ret ?_); first | exact rfl | exact Pu.mk)
theorem znu (p0 : TScope) : Le (fun r x => Pu (D.sl true 4 (List.map (TValue.e false) r)) [] x) (zeY p0) (zab T 92 [D.agg [D.sl false 5 (List.map (TBinding.e false) p0.Vars), D.sl false 4 (List.map (TFunction.e false) p0.Functions), D.sl false 2 (List.map (TRecordType.e false) p0.Types)]] []) := by
 unfold zeY
 refine Le.enter (g := v92) rfl rfl rfl rfl ?_
 repeat' (try conv => arg 3; simp (maxSteps := 999999) only [sx, ty, ↓reduceIte, seval, *, ztY, v92, zBP]); first
  | (refine Le.call (zjb _) fun _ _ _ hy => ?_; obtain ⟨_, rfl⟩ := hy)
  | (refine Le.via (zkQ _ _ _ _) fun _ _ _ hy => ?_; try dsimp only [zdp] at hy; first | subst hy | obtain ⟨_, rfl⟩ := hy)
  | with_reducible refine Le.bool (fun _ => ?_) (fun _ => ?_)
  | ((with_reducible refine Le.ret ?_); first | exact rfl | exact Pu.mk)
theorem zro (p0 : THeap) (p1 : TValue) : Le (fun r x => Pu (D.bool r) [] x) (zkD p0 p1) (zab T 160 [D.agg [D.int .i64 p0.Next, D.sl false 10 (List.map (TObject.e false) p0.Objects)], D.agg [D.int .i64 p1.Kind, D.int .i64 p1.Num, D.str p1.Text, D.int .i64 p1.Ref]] []) := by
 unfold zkD
 refine Le.enter (g := v160) rfl rfl rfl rfl ?_
 repeat' (try conv => arg 3; simp (maxSteps := 999999) only [sx, ty, ↓reduceIte, seval, *, v160, zxW]); first
  | (refine Le.call (zrj _ _) fun _ _ _ hy => ?_; subst hy)
  | (refine Le.call (zjr _ _ _) fun _ _ _ hy => ?_; subst hy)
  | with_reducible refine Le.bool (fun _ => ?_) (fun _ => ?_)
  | ((with_reducible refine Le.ret ?_); first | exact rfl | exact Pu.mk)
noncomputable abbrev zeV (s1 : List TValue) (s2 : THeap) (s5 : Int) (k : List Fr) : Option Res := go T (enF [.tmp 4] []) ztp (.lp ztq :: .bl 0 :: .sq (.clr [0,4,5,6,7,8,9,10,11,12,13,14,15,16,17,18]) :: k) ⟨[Z, .d (D.sl false 4 (List.map (TValue.e false) s1)), .box [D.int .i64 s2.Next, D.sl false 10 (List.map (TObject.e false) s2.Objects)], Z, Z, .d (D.int .i64 s5), Z, Z, Z, Z, Z, Z, Z, Z, Z, Z, Z, Z, Z, Z, Z], []⟩
noncomputable abbrev zeW (s1 : List TValue) (s2 : THeap) (k : List Fr) (t : (Unit ⊕ Bool)) (x : Option Res) : Prop := match t with | .inl t => x = bk T (enF [.tmp 4] []) k ⟨[Z, .d (D.sl false 4 (List.map (TValue.e false) s1)), .box [D.int .i64 s2.Next, D.sl false 10 (List.map (TObject.e false) s2.Objects)], Z, Z, Z, Z, Z, Z, Z, Z, Z, Z, Z, Z, Z, Z, Z, Z, Z, Z], []⟩ | .inr t => Pu (D.bool t) [] x
theorem znv (s1 : List TValue) (s2 : THeap) : ∀ (s5 : Int) (k : List Fr), Le (zeW s1 s2 k) (zij s1 s2 s5) (zeV s1 s2 s5 k) := by
 intro s5 k
 refine Le.cp (X := zeV s1 s2 s5) (Q := zeW s1 s2) ?_ k
 refine zij.partial_correctness s1 s2 (motive := fun s5 r => ∀ k : List Fr, zeW s1 s2 k r (zeV s1 s2 s5 k)) ?_ s5
 intro rec hrec s5
 refine Le.pc ?_
 intro k
 unfold zeV ztp
 repeat' (try conv => arg 3; simp (maxSteps := 999999) only [sx, ty, ↓reduceIte, seval, *, zBN]); first
  | (refine Le.dcall (zro _ _) fun _ _ _ hy => ?_; obtain ⟨_, rfl⟩ := hy)
  | with_reducible refine Le.idx fun _ _ _ _ => ?_
  | with_reducible refine Le.bool (fun _ => ?_) (fun _ => ?_)
  | ((with_reducible refine Le.ret ?_); first | exact rfl | exact Pu.mk)
  | with_reducible refine Le.itq (fun _ => ?_) (fun _ => ?_)
  | exact fun r hr => hrec _ r hr k
theorem zsy (p0 : THeap) (p1 : List TValue) : Le (fun r x => Pu (D.bool r) [] x) (zik p0 p1) (zab T 91 [D.agg [D.int .i64 p0.Next, D.sl false 10 (List.map (TObject.e false) p0.Objects)], D.sl false 4 (List.map (TValue.e false) p1)] []) := by
 unfold zik
 refine Le.enter (g := v91) rfl rfl rfl rfl ?_
 repeat' (try conv => arg 3; simp (maxSteps := 999999) only [sx, ty, ↓reduceIte, seval, *, zBN, v91, zBO]); first
  | (refine Le.via (znv _ _ _ _) fun t _ _ hy => ?_; rcases t with t | t <;> (try dsimp only [zeW] at hy; first | subst hy | obtain ⟨_, rfl⟩ := hy))
  | (refine Le.call (zjV _) fun _ _ _ hy => ?_; obtain ⟨_, rfl⟩ := hy)
  | ((with_reducible refine Le.ret ?_); first | exact rfl | exact Pu.mk)
theorem zmY (p0 : TMemory) : Le (fun r x => Pu (D.bool r) [] x) (zcY p0) (zab T 37 [D.agg [D.int .i64 p0.Heap.Next, D.sl false 10 (List.map (TObject.e false) p0.Heap.Objects), D.sl false 5 (List.map (TBinding.e false) p0.Scope.Vars), D.sl false 4 (List.map (TFunction.e false) p0.Scope.Functions), D.sl false 2 (List.map (TRecordType.e false) p0.Scope.Types), D.sl false 1 (List.map D.str p0.Console.Input), D.int .i64 p0.Console.At, D.sl false 1 (List.map D.str p0.Console.Output), D.sl false 4 (List.map (TFile.e false) p0.Console.Files), D.sl false 1 (List.map D.str p0.Console.Trace)]] []) := by
 unfold zcY
 refine Le.enter (g := v37) rfl rfl rfl rfl ?_
 repeat' (try conv => arg 3; simp (maxSteps := 999999) only [sx, ty, ↓reduceIte, seval, *, v37, zBx]); first
  | (refine Le.dcall (zjV _) fun _ _ _ hy => ?_; obtain ⟨_, rfl⟩ := hy)
  | (refine Le.dcall (zjb _) fun _ _ _ hy => ?_; obtain ⟨_, rfl⟩ := hy)
  | (refine Le.dcall (zlx _) fun _ _ _ hy => ?_; obtain ⟨_, rfl⟩ := hy)
  | (refine Le.dcall (znu _) fun _ _ _ hy => ?_; obtain ⟨_, rfl⟩ := hy)
  | (refine Le.dcall (zsy _ _) fun _ _ _ hy => ?_; obtain ⟨_, rfl⟩ := hy)
  | with_reducible refine Le.bool (fun _ => ?_) (fun _ => ?_)
  | ((with_reducible refine Le.ret ?_); first | exact rfl | exact Pu.mk)
theorem zqg (p0 : List ByteArray) : Le (fun r x => Pu (D.tup [D.agg [D.int .i64 r.1.Heap.Next, D.sl true 10 (List.map (TObject.e true) r.1.Heap.Objects), D.sl true 5 (List.map (TBinding.e false) r.1.Scope.Vars), D.sl true 4 (List.map (TFunction.e true) r.1.Scope.Functions), D.sl true 2 (List.map (TRecordType.e true) r.1.Scope.Types), D.sl true 1 (List.map D.str r.1.Console.Input), D.int .i64 r.1.Console.At, D.sl true 1 (List.map D.str r.1.Console.Output), D.sl true 4 (List.map (TFile.e true) r.1.Console.Files), D.sl true 1 (List.map D.str r.1.Console.Trace)], D.bool r.2]) [] x) (zhv p0) (zab T 9 [D.sl false 1 (List.map D.str p0)] []) := by
 unfold zhv
 refine Le.enter (g := v9) rfl rfl rfl rfl ?_
 repeat' (try conv => arg 3; simp (maxSteps := 999999) only [sx, ty, ↓reduceIte, seval, *, v9, v9_b]); first
  | (refine Le.call (zmY _) fun _ _ _ hy => ?_; obtain ⟨_, rfl⟩ := hy)
  | with_reducible refine Le.chk fun _ => ?_
  | with_reducible refine Le.bool (fun _ => ?_) (fun _ => ?_)
  | ((with_reducible refine Le.ret ?_); first | exact rfl | exact Pu.mk)
theorem zdV (p0 : Int) (p1 : Int) (p2 : Int) : Le (fun r x => Pu (D.bool r) [] x) (zdD p0 p1 p2) (zab T 133 [D.int .i64 p0, D.int .i64 p1, D.int .i64 p2] []) := by
 unfold zdD
 refine Le.enter (g := v133) rfl rfl rfl rfl ?_
 repeat' (try conv => arg 3; simp (maxSteps := 999999) only [sx, ty, ↓reduceIte, seval, *, v133, zxL]); first
  | ((with_reducible refine Le.ret ?_); first | exact rfl | exact Pu.mk)
  | with_reducible refine Le.itq (fun _ => ?_) (fun _ => ?_)
theorem zjd (p0 : Int) : Le (fun r x => Pu (D.bool r) [] x) (zgk p0) (zab T 219 [D.int .i64 p0] []) := by
 unfold zgk
 refine Le.enter (g := v219) rfl rfl rfl rfl ?_
 repeat' (try conv => arg 3; simp (maxSteps := 999999) only [sx, ty, ↓reduceIte, seval, *, v219, zyU]); first
  | (refine Le.call (zdV _ _ _) fun _ _ _ hy => ?_; obtain ⟨_, rfl⟩ := hy)
  | ((with_reducible refine Le.ret ?_); first | exact rfl | exact Pu.mk)
theorem zlr (p0 : Int) : Le (fun r x => Pu (D.bool r) [] x) (ziP p0) (zab T 252 [D.int .u8 p0] []) := by
 unfold ziP
 refine Le.enter (g := v252) rfl rfl rfl rfl ?_
 repeat' (try conv => arg 3; simp (maxSteps := 999999) only [sx, ty, ↓reduceIte, seval, *, v252, zzz]); first
  | ((with_reducible refine Le.ret ?_); first | exact rfl | exact Pu.mk)
  | with_reducible refine Le.itq (fun _ => ?_) (fun _ => ?_)
theorem zsz (p0 : Int) : Le (fun r x => Pu (D.bool r) [] x) (zmT p0) (zab T 268 [D.int .u8 p0] []) := by
 unfold zmT
 refine Le.enter (g := v268) rfl rfl rfl rfl ?_
 repeat' (try conv => arg 3; simp (maxSteps := 999999) only [sx, ty, ↓reduceIte, seval, *, v268, zzI]); first
  | ((with_reducible refine Le.ret ?_); first | exact rfl | exact Pu.mk)
  | with_reducible refine Le.itq (fun _ => ?_) (fun _ => ?_)
theorem znw (p0 : Int) : Le (fun r x => Pu (D.bool r) [] x) (zil p0) (zab T 254 [D.int .u8 p0] []) := by
 unfold zil
 refine Le.enter (g := v254) rfl rfl rfl rfl ?_
 repeat' (try conv => arg 3; simp (maxSteps := 999999) only [sx, ty, ↓reduceIte, seval, *, v254, zzC]); first
  | (refine Le.call (zlr _) fun _ _ _ hy => ?_; obtain ⟨_, rfl⟩ := hy)
  | (refine Le.call (zsz _) fun _ _ _ hy => ?_; obtain ⟨_, rfl⟩ := hy)
  | with_reducible refine Le.bool (fun _ => ?_) (fun _ => ?_)
  | ((with_reducible refine Le.ret ?_); first | exact rfl | exact Pu.mk)
noncomputable abbrev zcI (s0 : List Int) (s7 : List Int) (s8 : Int) (s9 : Int) (k : List Fr) : Option Res := go T (enF [.tmp 4] []) zpK (.lp zpL :: .bl 0 :: .sq (.clr [4,6,7,8,9,10,11,12,13,14,15,16,17]) :: k) ⟨[.d (D.sl false 1 (List.map (D.int .u8) s0)), .d (D.fn 254 []), Z, Z, Z, Z, Z, .d (D.sl false 1 (List.map (D.int .u8) s7)), .d (D.int .i64 s8), .d (D.int .i64 s9), Z, Z, Z, Z, Z, Z, Z, Z], []⟩
noncomputable abbrev zcJ (s0 : List Int) (s7 : List Int) (s8 : Int) (k : List Fr) (t : (Unit ⊕ Bool)) (x : Option Res) : Prop := match t with | .inl t => x = bk T (enF [.tmp 4] []) k ⟨[.d (D.sl false 1 (List.map (D.int .u8) s0)), .d (D.fn 254 []), Z, Z, Z, Z, Z, Z, Z, Z, Z, Z, Z, Z, Z, Z, Z, Z], []⟩ | .inr t => Pu (D.bool t) [] x
theorem zjY (s0 : List Int) (s7 : List Int) (s8 : Int) : ∀ (s9 : Int) (k : List Fr), Le (zcJ s0 s7 s8 k) (zfi s0 s7 s8 s9) (zcI s0 s7 s8 s9 k) := by
 intro s9 k
 refine Le.cp (X := zcI s0 s7 s8 s9) (Q := zcJ s0 s7 s8) ?_ k
 refine zfi.partial_correctness s0 s7 s8 (motive := fun s9 r => ∀ k : List Fr, zcJ s0 s7 s8 k r (zcI s0 s7 s8 s9 k)) ?_ s9
 intro rec hrec s9
 refine Le.pc ?_
 intro k
 unfold zcI zpK
 repeat' (try conv => arg 3; simp (maxSteps := 999999) only [sx, ty, ↓reduceIte, seval, *, zzA]); first
  | (refine Le.call (znw _) fun _ _ _ hy => ?_; obtain ⟨_, rfl⟩ := hy)
  | with_reducible refine Le.idx fun _ _ _ _ => ?_
  | with_reducible refine Le.bool (fun _ => ?_) (fun _ => ?_)
  | ((with_reducible refine Le.ret ?_); first | exact rfl | exact Pu.mk)
  | with_reducible refine Le.itq (fun _ => ?_) (fun _ => ?_)
  | exact fun r hr => hrec _ r hr k
theorem zmZ (p0 : List Int) : Le (fun r x => Pu (D.bool r) [] x) (zhw p0) (zab T 253 [D.sl false 1 (List.map (D.int .u8) p0), D.fn 254 []] []) := by
 unfold zhw
 refine Le.enter (g := v253) rfl rfl rfl rfl ?_
 repeat' (try conv => arg 3; simp (maxSteps := 999999) only [sx, ty, ↓reduceIte, seval, *, zzA, v253, zzB]); first
  | (refine Le.via (zjY _ _ _ _ _) fun t _ _ hy => ?_; rcases t with t | t <;> (try dsimp only [zcJ] at hy; first | subst hy | obtain ⟨_, rfl⟩ := hy))
  | ((with_reducible refine Le.ret ?_); first | exact rfl | exact Pu.mk)
theorem zdW (p0 : ByteArray) : Le (fun r x => Pu (D.bool r) [] x) (zel p0) (zab T 222 [D.str p0] []) := by
 unfold zel
 refine Le.enter (g := v222) rfl rfl rfl rfl ?_
 repeat' (try conv => arg 3; simp (maxSteps := 999999) only [sx, ty, ↓reduceIte, seval, *, v222, zyX]); first
  | (refine Le.call (zlr _) fun _ _ _ hy => ?_; obtain ⟨_, rfl⟩ := hy)
  | (refine Le.call (zmZ _) fun _ _ _ hy => ?_; obtain ⟨_, rfl⟩ := hy)
  | with_reducible refine Le.idxBN fun _ _ _ => ?_
  | with_reducible refine Le.bool (fun _ => ?_) (fun _ => ?_)
  | ((with_reducible refine Le.ret ?_); first | exact rfl | exact Pu.mk)
  | with_reducible refine Le.itq (fun _ => ?_) (fun _ => ?_)
noncomputable abbrev zgY (s1 : TValue) (s65 : Bool) (k : List Fr) : Option Res := go T (enF [.tmp 2] []) zrU k ⟨[Z, .box [D.int .i64 s1.Kind, D.int .i64 s1.Num, D.str s1.Text, D.int .i64 s1.Ref], Z, Z, Z, Z, Z, Z, Z, Z, Z, Z, Z, Z, Z, Z, Z, Z, Z, Z, Z, Z, Z, Z, Z, Z, Z, Z, Z, Z, Z, Z, Z, Z, Z, Z, Z, Z, Z, Z, Z, Z, Z, Z, Z, Z, Z, Z, Z, Z, Z, Z, Z, Z, Z, Z, Z, Z, Z, Z, Z, Z, Z, Z, Z, .d (D.bool s65), Z, Z, Z, Z, Z, Z, Z, Z, Z, Z, Z, Z, Z, Z], []⟩
noncomputable abbrev zgZ (s1 : TValue) (s65 : Bool) (k : List Fr) (t : (Bool ⊕ Bool)) (x : Option Res) : Prop := match t with | .inl t => x = bk T (enF [.tmp 2] []) k ⟨[Z, .box [D.int .i64 s1.Kind, D.int .i64 s1.Num, D.str s1.Text, D.int .i64 s1.Ref], Z, Z, Z, Z, Z, Z, Z, Z, Z, Z, Z, Z, Z, Z, Z, Z, Z, Z, Z, Z, Z, Z, Z, Z, Z, Z, Z, Z, Z, Z, Z, Z, Z, Z, Z, Z, Z, Z, Z, Z, Z, Z, Z, Z, Z, Z, Z, Z, Z, Z, Z, Z, Z, Z, Z, Z, Z, Z, Z, Z, Z, Z, Z, .d (D.bool t), Z, Z, Z, Z, Z, Z, Z, Z, Z, Z, Z, Z, Z, Z], []⟩ | .inr t => Pu (D.bool t) [] x
theorem zkR (s1 : TValue) (s65 : Bool) (k : List Fr) : Le (zgZ s1 s65 k) (zem s1 s65) (zgY s1 s65 k) := by
 unfold zem zgY zrU
 repeat' (try conv => arg 3; simp (maxSteps := 999999) only [sx, ty, ↓reduceIte, seval, *]); first
  | (refine Le.call (zdW _) fun _ _ _ hy => ?_; obtain ⟨_, rfl⟩ := hy)
  | with_reducible refine Le.bool (fun _ => ?_) (fun _ => ?_)
  | ((with_reducible refine Le.ret ?_); first | exact rfl | exact Pu.mk)
  | with_reducible refine Le.itq (fun _ => ?_) (fun _ => ?_)
noncomputable abbrev zha (s1 : TValue) (s4 : Int) (s49 : Bool) (k : List Fr) : Option Res := go T (enF [.tmp 2] []) zrV k ⟨[Z, .box [D.int .i64 s1.Kind, D.int .i64 s1.Num, D.str s1.Text, D.int .i64 s1.Ref], Z, Z, .d (D.int .i64 s4), Z, Z, Z, Z, Z, Z, Z, Z, Z, Z, Z, Z, Z, Z, Z, Z, Z, Z, Z, Z, Z, Z, Z, Z, Z, Z, Z, Z, Z, Z, Z, Z, Z, Z, Z, Z, Z, Z, Z, Z, Z, Z, Z, Z, .d (D.bool s49), Z, Z, Z, Z, Z, Z, Z, Z, Z, Z, Z, Z, Z, Z, Z, Z, Z, Z, Z, Z, Z, Z, Z, Z, Z, Z, Z, Z, Z, Z], []⟩
noncomputable abbrev zhb (s1 : TValue) (s4 : Int) (s49 : Bool) (k : List Fr) (t : (Unit ⊕ Bool)) (x : Option Res) : Prop := match t with | .inl t => x = bk T (enF [.tmp 2] []) k ⟨[Z, .box [D.int .i64 s1.Kind, D.int .i64 s1.Num, D.str s1.Text, D.int .i64 s1.Ref], Z, Z, Z, Z, Z, Z, Z, Z, Z, Z, Z, Z, Z, Z, Z, Z, Z, Z, Z, Z, Z, Z, Z, Z, Z, Z, Z, Z, Z, Z, Z, Z, Z, Z, Z, Z, Z, Z, Z, Z, Z, Z, Z, Z, Z, Z, Z, Z, Z, Z, Z, Z, Z, Z, Z, Z, Z, Z, Z, Z, Z, Z, Z, Z, Z, Z, Z, Z, Z, Z, Z, Z, Z, Z, Z, Z, Z, Z], []⟩ | .inr t => Pu (D.bool t) [] x
theorem zkS (s1 : TValue) (s4 : Int) (s49 : Bool) (k : List Fr) : Le (zhb s1 s4 s49 k) (zcU s1 s4 s49) (zha s1 s4 s49 k) := by
 unfold zcU zha zrV
 repeat' (try conv => arg 3; simp (maxSteps := 999999) only [sx, ty, ↓reduceIte, seval, *]); first
  | (refine Le.call (zjd _) fun _ _ _ hy => ?_; obtain ⟨_, rfl⟩ := hy)
  | (refine Le.via (zkR _ _ _) fun t _ _ hy => ?_; rcases t with t | t <;> (try dsimp only [zgZ] at hy; first | subst hy | obtain ⟨_, rfl⟩ := hy))
  | with_reducible refine Le.bool (fun _ => ?_) (fun _ => ?_)
  | ((with_reducible refine Le.ret ?_); first | exact rfl | exact Pu.mk)
  | with_reducible refine Le.itq (fun _ => ?_) (fun _ => ?_)
theorem zeX (p0 : TValue) : Le (fun r x => Pu (D.bool r) [] x) (zck p0) (zab T 184 [D.agg [D.int .i64 p0.Kind, D.int .i64 p0.Num, D.str p0.Text, D.int .i64 p0.Ref]] []) := by
 unfold zck
 refine Le.enter (g := v184) rfl rfl rfl rfl ?_
 repeat' (try conv => arg 3; simp (maxSteps := 999999) only [sx, ty, ↓reduceIte, seval, *, v184, zyz]); first
  | (refine Le.call (zdV _ _ _) fun _ _ _ hy => ?_; obtain ⟨_, rfl⟩ := hy)
  | (refine Le.via (zkS _ _ _ _) fun t _ _ hy => ?_; rcases t with t | t <;> (try dsimp only [zhb] at hy; first | subst hy | obtain ⟨_, rfl⟩ := hy))
  | ((with_reducible refine Le.ret ?_); first | exact rfl | exact Pu.mk)
  | with_reducible refine Le.itq (fun _ => ?_) (fun _ => ?_)
noncomputable abbrev zcn (s0 : List TValue) (s7 : List TValue) (s8 : Int) (s9 : Int) (k : List Fr) : Option Res := go T (enF [.tmp 4] []) zlm (.lp znU :: .bl 0 :: .sq (.clr [4,6,7,8,9,10,11,12,13,14,15,16,17]) :: k) ⟨[.d (D.sl false 4 (List.map (TValue.e false) s0)), .d (D.fn 184 []), Z, Z, Z, Z, Z, .d (D.sl false 4 (List.map (TValue.e false) s7)), .d (D.int .i64 s8), .d (D.int .i64 s9), Z, Z, Z, Z, Z, Z, Z, Z], []⟩
noncomputable abbrev zco (s0 : List TValue) (s7 : List TValue) (s8 : Int) (k : List Fr) (t : (Unit ⊕ Bool)) (x : Option Res) : Prop := match t with | .inl t => x = bk T (enF [.tmp 4] []) k ⟨[.d (D.sl false 4 (List.map (TValue.e false) s0)), .d (D.fn 184 []), Z, Z, Z, Z, Z, Z, Z, Z, Z, Z, Z, Z, Z, Z, Z, Z], []⟩ | .inr t => Pu (D.bool t) [] x
theorem zjs (s0 : List TValue) (s7 : List TValue) (s8 : Int) : ∀ (s9 : Int) (k : List Fr), Le (zco s0 s7 s8 k) (zeL s0 s7 s8 s9) (zcn s0 s7 s8 s9 k) := by
 intro s9 k
 refine Le.cp (X := zcn s0 s7 s8 s9) (Q := zco s0 s7 s8) ?_ k
 refine zeL.partial_correctness s0 s7 s8 (motive := fun s9 r => ∀ k : List Fr, zco s0 s7 s8 k r (zcn s0 s7 s8 s9 k)) ?_ s9
 intro rec hrec s9
 refine Le.pc ?_
 intro k
 unfold zcn zlm
 repeat' (try conv => arg 3; simp (maxSteps := 999999) only [sx, ty, ↓reduceIte, seval, *, ztZ]); first
  | (refine Le.call (zeX _) fun _ _ _ hy => ?_; obtain ⟨_, rfl⟩ := hy)
  | with_reducible refine Le.idx fun _ _ _ _ => ?_
  | with_reducible refine Le.bool (fun _ => ?_) (fun _ => ?_)
  | ((with_reducible refine Le.ret ?_); first | exact rfl | exact Pu.mk)
  | with_reducible refine Le.itq (fun _ => ?_) (fun _ => ?_)
  | exact fun r hr => hrec _ r hr k
theorem zhH (p0 : List TValue) : Le (fun r x => Pu (D.bool r) [] x) (zeP p0) (zab T 96 [D.sl false 4 (List.map (TValue.e false) p0), D.fn 184 []] []) := by
 unfold zeP
 refine Le.enter (g := v96) rfl rfl rfl rfl ?_
 repeat' (try conv => arg 3; simp (maxSteps := 999999) only [sx, ty, ↓reduceIte, seval, *, ztZ, v96, zwM]); first
  | (refine Le.via (zjs _ _ _ _ _) fun t _ _ hy => ?_; rcases t with t | t <;> (try dsimp only [zco] at hy; first | subst hy | obtain ⟨_, rfl⟩ := hy))
  | ((with_reducible refine Le.ret ?_); first | exact rfl | exact Pu.mk)
noncomputable abbrev zaC (s0 : List TValue) (s3 : TValue) (s7 : Int) (s8 : Int) (k : List Fr) : Option Res := go T (enF [.tmp 4] []) zpM (.lp zpN :: .bl 0 :: .sq (.clr [1,3,4,5,6,7,8,9,10,11,12,13,14,15,16,17,18]) :: k) ⟨[.d (D.sl false 4 (List.map (TValue.e false) s0)), Z, Z, .box [D.int .i64 s3.Kind, D.int .i64 s3.Num, D.str s3.Text, D.int .i64 s3.Ref], Z, Z, Z, .d (D.int .i64 s7), .d (D.int .i64 s8), Z, Z, Z, Z, Z, Z, Z, Z, Z, Z], []⟩
noncomputable abbrev zaD (s0 : List TValue) (s3 : TValue) (s7 : Int) (k : List Fr) (t : (Unit ⊕ Int)) (x : Option Res) : Prop := match t with | .inl t => x = bk T (enF [.tmp 4] []) k ⟨[.d (D.sl false 4 (List.map (TValue.e false) s0)), Z, Z, Z, Z, Z, Z, Z, Z, Z, Z, Z, Z, Z, Z, Z, Z, Z, Z], []⟩ | .inr t => Pu (D.int .i64 t) [] x
theorem zfp (s0 : List TValue) (s3 : TValue) (s7 : Int) : ∀ (s8 : Int) (k : List Fr), Le (zaD s0 s3 s7 k) (zav s0 s3 s7 s8) (zaC s0 s3 s7 s8 k) := by
 intro s8 k
 refine Le.cp (X := zaC s0 s3 s7 s8) (Q := zaD s0 s3 s7) ?_ k
 refine zav.partial_correctness s0 s3 s7 (motive := fun s8 r => ∀ k : List Fr, zaD s0 s3 s7 k r (zaC s0 s3 s7 s8 k)) ?_ s8
 intro rec hrec s8
 refine Le.pc ?_
 intro k
 unfold zaC zpM
 repeat' (try conv => arg 3; simp (maxSteps := 999999) only [sx, ty, ↓reduceIte, seval, *, zzG]); first
  | with_reducible refine Le.idx fun _ _ _ _ => ?_
  | ((with_reducible refine Le.ret ?_); first | exact rfl | exact Pu.mk)
  | with_reducible refine Le.itq (fun _ => ?_) (fun _ => ?_)
  | exact fun r hr => hrec _ r hr k
theorem zgc (p0 : List TValue) (p1 : TValue) : Le (fun r x => Pu (D.int .i64 r) [] x) (zcd p0 p1) (zab T 267 [D.sl false 4 (List.map (TValue.e false) p0), D.agg [D.int .i64 p1.Kind, D.int .i64 p1.Num, D.str p1.Text, D.int .i64 p1.Ref]] []) := by
 unfold zcd
 refine Le.enter (g := v267) rfl rfl rfl rfl ?_
 repeat' (try conv => arg 3; simp (maxSteps := 999999) only [sx, ty, ↓reduceIte, seval, *, zzG, v267, zzH]); first
  | (refine Le.via (zfp _ _ _ _ _) fun t _ _ hy => ?_; rcases t with t | t <;> (try dsimp only [zaD] at hy; first | subst hy | obtain ⟨_, rfl⟩ := hy))
  | ((with_reducible refine Le.ret ?_); first | exact rfl | exact Pu.mk)
theorem zfq (p0 : List TValue) (p1 : TValue) : Le (fun r x => Pu (D.bool r) [] x) (zbn p0 p1) (zab T 250 [D.sl false 4 (List.map (TValue.e false) p0), D.agg [D.int .i64 p1.Kind, D.int .i64 p1.Num, D.str p1.Text, D.int .i64 p1.Ref]] []) := by
 unfold zbn
 refine Le.enter (g := v250) rfl rfl rfl rfl ?_
 repeat' (try conv => arg 3; simp (maxSteps := 999999) only [sx, ty, ↓reduceIte, seval, *, v250, zzx]); first
  | (refine Le.call (zgc _ _) fun _ _ _ hy => ?_; obtain ⟨_, rfl⟩ := hy)
  | ((with_reducible refine Le.ret ?_); first | exact rfl | exact Pu.mk)
noncomputable abbrev zcp (s0 : List TValue) (s5 : List TValue) (s6 : Int) (s7 : Int) (k : List Fr) : Option Res := go T (enF [.tmp 2] []) zpq (.lp zpr :: .bl 0 :: .sq (.clr [2,3,4,5,6,7,8,9,10,11,12,13,14,15,16,17]) :: k) ⟨[.d (D.sl false 4 (List.map (TValue.e false) s0)), Z, Z, Z, Z, .d (D.sl false 4 (List.map (TValue.e false) s5)), .d (D.int .i64 s6), .d (D.int .i64 s7), Z, Z, Z, Z, Z, Z, Z, Z, Z, Z], []⟩
noncomputable abbrev zcq (s0 : List TValue) (s5 : List TValue) (s6 : Int) (k : List Fr) (t : (Unit ⊕ Bool)) (x : Option Res) : Prop := match t with | .inl t => x = bk T (enF [.tmp 2] []) k ⟨[.d (D.sl false 4 (List.map (TValue.e false) s0)), Z, Z, Z, Z, Z, Z, Z, Z, Z, Z, Z, Z, Z, Z, Z, Z, Z], []⟩ | .inr t => Pu (D.bool t) [] x
theorem zjt (s0 : List TValue) (s5 : List TValue) (s6 : Int) : ∀ (s7 : Int) (k : List Fr), Le (zcq s0 s5 s6 k) (zeM s0 s5 s6 s7) (zcp s0 s5 s6 s7 k) := by
 intro s7 k
 refine Le.cp (X := zcp s0 s5 s6 s7) (Q := zcq s0 s5 s6) ?_ k
 refine zeM.partial_correctness s0 s5 s6 (motive := fun s7 r => ∀ k : List Fr, zcq s0 s5 s6 k r (zcp s0 s5 s6 s7 k)) ?_ s7
 intro rec hrec s7
 refine Le.pc ?_
 intro k
 unfold zcp zpq
 try conv => arg 3; simp (maxSteps := 999999) only [sx, ty, ↓reduceIte, seval, *, znX]
 refine Le.itq (fun h => ?_) (fun h => ?_)
 ·try conv => arg 3; simp (maxSteps := 999999) only [sx, ty, ↓reduceIte, seval, *, znX]
  refine Le.idx fun a10 h_1 h_2 h_3 => ?_
  try conv => arg 3; simp (maxSteps := 999999) only [sx, ty, ↓reduceIte, seval, *, znX]
  refine Le.subH fun c14 h_4 h_5 h_6 => ?_
  replace h_4 : List.take s7.toNat (List.map (TValue.e false) s0) = List.map (TValue.e false) c14 := by rw [h_4]; exact zvd ..
  repeat' (try conv => arg 3; simp (maxSteps := 999999) only [sx, ty, ↓reduceIte, seval, *, znX]); first
   | (refine Le.dcall (zfq _ _) fun _ _ _ hy => ?_; obtain ⟨_, rfl⟩ := hy)
   | with_reducible refine Le.bool (fun _ => ?_) (fun _ => ?_)
   | ((with_reducible refine Le.ret ?_); first | exact rfl | exact Pu.mk)
   | exact fun r hr => hrec _ r hr k
 ·try conv => arg 3; simp (maxSteps := 999999) only [sx, ty, ↓reduceIte, seval, *, znX]
  ((with_reducible refine Le.ret ?_); first | exact rfl | exact Pu.mk)
theorem zly (p0 : List TValue) : Le (fun r x => Pu (D.bool r) [] x) (zeQ p0) (zab T 220 [D.sl false 4 (List.map (TValue.e false) p0)] []) := by
 unfold zeQ
 refine Le.enter (g := v220) rfl rfl rfl rfl ?_
 repeat' (try conv => arg 3; simp (maxSteps := 999999) only [sx, ty, ↓reduceIte, seval, *, znX, v220, zyV]); first
  | (refine Le.via (zjt _ _ _ _ _) fun t _ _ hy => ?_; rcases t with t | t <;> (try dsimp only [zcq] at hy; first | subst hy | obtain ⟨_, rfl⟩ := hy))
  | ((with_reducible refine Le.ret ?_); first | exact rfl | exact Pu.mk)
theorem znY (p0 : ByteArray) : Le (fun r x => Pu (D.agg [D.int .i64 r.Kind, D.int .i64 r.Num, D.str r.Text, D.int .i64 r.Ref]) [] x) (zlP p0) (zab T 251 [D.str p0] []) := by
 unfold zlP
 refine Le.enter (g := v251) rfl rfl rfl rfl ?_
 try conv => arg 3; simp (maxSteps := 999999) only [sx, ty, ↓reduceIte, seval, *, v251, zzy]
 ((with_reducible refine Le.ret ?_); first | exact rfl | exact Pu.mk)
theorem zsA (p0 : TValue) : Le (fun r x => Pu (D.bool r) [] x) (zmU p0) (zab T 221 [D.agg [D.int .i64 p0.Kind, D.int .i64 p0.Num, D.str p0.Text, D.int .i64 p0.Ref]] []) := by
 unfold zmU
 refine Le.enter (g := v221) rfl rfl rfl rfl ?_
 repeat' (try conv => arg 3; simp (maxSteps := 999999) only [sx, ty, ↓reduceIte, seval, *, v221, zyW]); first
  | (refine Le.dcall (znY _) fun _ _ _ hy => ?_; obtain ⟨_, rfl⟩ := hy)
  | (refine Le.dcall (zdW _) fun _ _ _ hy => ?_; obtain ⟨_, rfl⟩ := hy)
  | ((with_reducible refine Le.ret ?_); first | exact rfl | exact Pu.mk)
  | with_reducible refine Le.itq (fun _ => ?_) (fun _ => ?_)
noncomputable abbrev zbE (s0 : List TValue) (s7 : List TValue) (s8 : Int) (s9 : Int) (k : List Fr) : Option Res := go T (enF [.tmp 4] []) zlm (.lp znU :: .bl 0 :: .sq (.clr [4,6,7,8,9,10,11,12,13,14,15,16,17]) :: k) ⟨[.d (D.sl false 4 (List.map (TValue.e false) s0)), .d (D.fn 221 []), Z, Z, Z, Z, Z, .d (D.sl false 4 (List.map (TValue.e false) s7)), .d (D.int .i64 s8), .d (D.int .i64 s9), Z, Z, Z, Z, Z, Z, Z, Z], []⟩
noncomputable abbrev zbF (s0 : List TValue) (s7 : List TValue) (s8 : Int) (k : List Fr) (t : (Unit ⊕ Bool)) (x : Option Res) : Prop := match t with | .inl t => x = bk T (enF [.tmp 4] []) k ⟨[.d (D.sl false 4 (List.map (TValue.e false) s0)), .d (D.fn 221 []), Z, Z, Z, Z, Z, Z, Z, Z, Z, Z, Z, Z, Z, Z, Z, Z], []⟩ | .inr t => Pu (D.bool t) [] x
theorem ziq (s0 : List TValue) (s7 : List TValue) (s8 : Int) : ∀ (s9 : Int) (k : List Fr), Le (zbF s0 s7 s8 k) (zdN s0 s7 s8 s9) (zbE s0 s7 s8 s9 k) := by
 intro s9 k
 refine Le.cp (X := zbE s0 s7 s8 s9) (Q := zbF s0 s7 s8) ?_ k
 refine zdN.partial_correctness s0 s7 s8 (motive := fun s9 r => ∀ k : List Fr, zbF s0 s7 s8 k r (zbE s0 s7 s8 s9 k)) ?_ s9
 intro rec hrec s9
 refine Le.pc ?_
 intro k
 unfold zbE zlm
 repeat' (try conv => arg 3; simp (maxSteps := 999999) only [sx, ty, ↓reduceIte, seval, *, ztZ]); first
  | (refine Le.call (zsA _) fun _ _ _ hy => ?_; obtain ⟨_, rfl⟩ := hy)
  | with_reducible refine Le.idx fun _ _ _ _ => ?_
  | with_reducible refine Le.bool (fun _ => ?_) (fun _ => ?_)
  | ((with_reducible refine Le.ret ?_); first | exact rfl | exact Pu.mk)
  | with_reducible refine Le.itq (fun _ => ?_) (fun _ => ?_)
  | exact fun r hr => hrec _ r hr k
theorem zjZ (p0 : List TValue) : Le (fun r x => Pu (D.bool r) [] x) (zfj p0) (zab T 96 [D.sl false 4 (List.map (TValue.e false) p0), D.fn 221 []] []) := by
 unfold zfj
 refine Le.enter (g := v96) rfl rfl rfl rfl ?_
 repeat' (try conv => arg 3; simp (maxSteps := 999999) only [sx, ty, ↓reduceIte, seval, *, ztZ, v96, zwM]); first
  | (refine Le.via (ziq _ _ _ _ _) fun t _ _ hy => ?_; rcases t with t | t <;> (try dsimp only [zbF] at hy; first | subst hy | obtain ⟨_, rfl⟩ := hy))
  | ((with_reducible refine Le.ret ?_); first | exact rfl | exact Pu.mk)
noncomputable abbrev zgw (s1 : TObject) (s3 : Bool) (k : List Fr) : Option Res := go T (enF [.tmp 2] []) zrO k ⟨[Z, .box [D.int .i64 s1.Id, D.int .i64 s1.Kind, D.str s1.Name, D.int .i64 s1.Low, D.sl false 4 (List.map (TValue.e false) s1.Keys), D.sl false 4 (List.map (TValue.e false) s1.Vals), D.int .i64 s1.Default.Kind, D.int .i64 s1.Default.Num, D.str s1.Default.Text, D.int .i64 s1.Default.Ref], Z, .d (D.bool s3), Z, Z, Z, Z, Z, Z, Z, Z, Z, Z, Z, Z, Z, Z, Z, Z, Z, Z, Z, Z, Z, Z, Z, Z, Z, Z, Z, Z, Z, Z, Z, Z, Z, Z, Z, Z, Z, Z, Z, Z, Z, Z, Z, Z, Z, Z, Z, Z, Z, Z, Z, Z, Z, Z, Z, Z, Z, Z, Z, Z, Z, Z, Z, Z, Z, Z, Z, Z, Z, Z, Z, Z, Z, Z, Z, Z, Z, Z, Z, Z, Z, Z, Z, Z, Z, Z, Z, Z, Z, Z, Z, Z, Z, Z, Z, Z, Z, Z, Z, Z, Z, Z, Z, Z, Z, Z, Z, Z, Z, Z, Z, Z, Z, Z, Z, Z, Z, Z, Z, Z, Z, Z], []⟩
noncomputable abbrev zgx (s1 : TObject) (s3 : Bool) (k : List Fr) (t : Bool) (x : Option Res) : Prop := Pu (D.bool t) [] x
theorem zka (s1 : TObject) (s3 : Bool) (k : List Fr) : Le (zgx s1 s3 k) (zcw s1 s3) (zgw s1 s3 k) := by
 unfold zcw zgw zrO
 repeat' (try conv => arg 3; simp (maxSteps := 999999) only [sx, ty, ↓reduceIte, seval, *]); first
  | (refine Le.call (zeX _) fun _ _ _ hy => ?_; obtain ⟨_, rfl⟩ := hy)
  | with_reducible refine Le.bool (fun _ => ?_) (fun _ => ?_)
  | ((with_reducible refine Le.ret ?_); first | exact rfl | exact Pu.mk)
  | with_reducible refine Le.itq (fun _ => ?_) (fun _ => ?_)
noncomputable abbrev zgy (s1 : TObject) (s5 : Bool) (k : List Fr) : Option Res := go T (enF [.tmp 2] []) zrP k ⟨[Z, .box [D.int .i64 s1.Id, D.int .i64 s1.Kind, D.str s1.Name, D.int .i64 s1.Low, D.sl false 4 (List.map (TValue.e false) s1.Keys), D.sl false 4 (List.map (TValue.e false) s1.Vals), D.int .i64 s1.Default.Kind, D.int .i64 s1.Default.Num, D.str s1.Default.Text, D.int .i64 s1.Default.Ref], Z, Z, Z, .d (D.bool s5), Z, Z, Z, Z, Z, Z, Z, Z, Z, Z, Z, Z, Z, Z, Z, Z, Z, Z, Z, Z, Z, Z, Z, Z, Z, Z, Z, Z, Z, Z, Z, Z, Z, Z, Z, Z, Z, Z, Z, Z, Z, Z, Z, Z, Z, Z, Z, Z, Z, Z, Z, Z, Z, Z, Z, Z, Z, Z, Z, Z, Z, Z, Z, Z, Z, Z, Z, Z, Z, Z, Z, Z, Z, Z, Z, Z, Z, Z, Z, Z, Z, Z, Z, Z, Z, Z, Z, Z, Z, Z, Z, Z, Z, Z, Z, Z, Z, Z, Z, Z, Z, Z, Z, Z, Z, Z, Z, Z, Z, Z, Z, Z, Z, Z, Z, Z, Z, Z, Z, Z], []⟩
noncomputable abbrev zgz (s1 : TObject) (s5 : Bool) (k : List Fr) (t : Bool) (x : Option Res) : Prop := Pu (D.bool t) [] x
theorem zkb (s1 : TObject) (s5 : Bool) (k : List Fr) : Le (zgz s1 s5 k) (zbf s1 s5) (zgy s1 s5 k) := by
 unfold zbf zgy zrP
 repeat' (try conv => arg 3; simp (maxSteps := 999999) only [sx, ty, ↓reduceIte, seval, *]); first
  | (refine Le.call (zdW _) fun _ _ _ hy => ?_; obtain ⟨_, rfl⟩ := hy)
  | with_reducible refine Le.bool (fun _ => ?_) (fun _ => ?_)
  | ((with_reducible refine Le.ret ?_); first | exact rfl | exact Pu.mk)
  | with_reducible refine Le.itq (fun _ => ?_) (fun _ => ?_)
noncomputable abbrev zgA (s1 : TObject) (k : List Fr) : Option Res := go T (enF [.tmp 2] []) zrQ k ⟨[Z, .box [D.int .i64 s1.Id, D.int .i64 s1.Kind, D.str s1.Name, D.int .i64 s1.Low, D.sl false 4 (List.map (TValue.e false) s1.Keys), D.sl false 4 (List.map (TValue.e false) s1.Vals), D.int .i64 s1.Default.Kind, D.int .i64 s1.Default.Num, D.str s1.Default.Text, D.int .i64 s1.Default.Ref], Z, Z, Z, Z, Z, Z, Z, Z, Z, Z, Z, Z, Z, Z, Z, Z, Z, Z, Z, Z, Z, Z, Z, Z, Z, Z, Z, Z, Z, Z, Z, Z, Z, Z, Z, Z, Z, Z, Z, Z, Z, Z, Z, Z, Z, Z, Z, Z, Z, Z, Z, Z, Z, Z, Z, Z, Z, Z, Z, Z, Z, Z, Z, Z, Z, Z, Z, Z, Z, Z, Z, Z, Z, Z, Z, Z, Z, Z, Z, Z, Z, Z, Z, Z, Z, Z, Z, Z, Z, Z, Z, Z, Z, Z, Z, Z, Z, Z, Z, Z, Z, Z, Z, Z, Z, Z, Z, Z, Z, Z, Z, Z, Z, Z, Z, Z, Z, Z, Z, Z, Z, Z, Z, Z], []⟩
noncomputable abbrev zkc (s1 : TObject) (k : List Fr) (t : Bool) (x : Option Res) : Prop := Pu (D.bool t) [] x
theorem zkd (s1 : TObject) (k : List Fr) : Le (zkc s1 k) (zfk s1) (zgA s1 k) := by
 unfold zfk zgA zrQ
 repeat' (try conv => arg 3; simp (maxSteps := 999999) only [sx, ty, ↓reduceIte, seval, *]); first
  | (refine Le.call (zdV _ _ _) fun _ _ _ hy => ?_; obtain ⟨_, rfl⟩ := hy)
  | (refine Le.call (zhH _) fun _ _ _ hy => ?_; obtain ⟨_, rfl⟩ := hy)
  | (refine Le.call (zly _) fun _ _ _ hy => ?_; obtain ⟨_, rfl⟩ := hy)
  | (refine Le.via (zka _ _ _) fun _ _ _ hy => ?_; try dsimp only [zgx] at hy; first | subst hy | obtain ⟨_, rfl⟩ := hy)
  | (refine Le.call (zjZ _) fun _ _ _ hy => ?_; obtain ⟨_, rfl⟩ := hy)
  | (refine Le.via (zkb _ _ _) fun _ _ _ hy => ?_; try dsimp only [zgz] at hy; first | subst hy | obtain ⟨_, rfl⟩ := hy)
  | with_reducible refine Le.bool (fun _ => ?_) (fun _ => ?_)
  | ((with_reducible refine Le.ret ?_); first | exact rfl | exact Pu.mk)
  | with_reducible refine Le.itq (fun _ => ?_) (fun _ => ?_)
theorem zna (p0 : TObject) : Le (fun r x => Pu (D.bool r) [] x) (zhx p0) (zab T 162 [D.agg [D.int .i64 p0.Id, D.int .i64 p0.Kind, D.str p0.Name, D.int .i64 p0.Low, D.sl false 4 (List.map (TValue.e false) p0.Keys), D.sl false 4 (List.map (TValue.e false) p0.Vals), D.int .i64 p0.Default.Kind, D.int .i64 p0.Default.Num, D.str p0.Default.Text, D.int .i64 p0.Default.Ref]] []) := by
 unfold zhx
 refine Le.enter (g := v162) rfl rfl rfl rfl ?_
 repeat' (try conv => arg 3; simp (maxSteps := 999999) only [sx, ty, ↓reduceIte, seval, *, v162, zxX]); first
  | (refine Le.call (zjd _) fun _ _ _ hy => ?_; obtain ⟨_, rfl⟩ := hy)
  | (refine Le.call (zhH _) fun _ _ _ hy => ?_; obtain ⟨_, rfl⟩ := hy)
  | exact zkd _ _
  | with_reducible refine Le.bool (fun _ => ?_) (fun _ => ?_)
  | ((with_reducible refine Le.ret ?_); first | exact rfl | exact Pu.mk)
  | with_reducible refine Le.itq (fun _ => ?_) (fun _ => ?_)
noncomputable abbrev zbT (s0 : List TObject) (s7 : List TObject) (s8 : Int) (s9 : Int) (k : List Fr) : Option Res := go T (enF [.tmp 4] []) zkt (.lp zmG :: .bl 0 :: .sq (.clr [4,6,7,8,9,10,11,12,13,14,15,16,17]) :: k) ⟨[.d (D.sl false 10 (List.map (TObject.e false) s0)), .d (D.fn 162 []), Z, Z, Z, Z, Z, .d (D.sl false 10 (List.map (TObject.e false) s7)), .d (D.int .i64 s8), .d (D.int .i64 s9), Z, Z, Z, Z, Z, Z, Z, Z], []⟩
noncomputable abbrev zbU (s0 : List TObject) (s7 : List TObject) (s8 : Int) (k : List Fr) (t : (Unit ⊕ Bool)) (x : Option Res) : Prop := match t with | .inl t => x = bk T (enF [.tmp 4] []) k ⟨[.d (D.sl false 10 (List.map (TObject.e false) s0)), .d (D.fn 162 []), Z, Z, Z, Z, Z, Z, Z, Z, Z, Z, Z, Z, Z, Z, Z, Z], []⟩ | .inr t => Pu (D.bool t) [] x
theorem ziS (s0 : List TObject) (s7 : List TObject) (s8 : Int) : ∀ (s9 : Int) (k : List Fr), Le (zbU s0 s7 s8 k) (zen s0 s7 s8 s9) (zbT s0 s7 s8 s9 k) := by
 intro s9 k
 refine Le.cp (X := zbT s0 s7 s8 s9) (Q := zbU s0 s7 s8) ?_ k
 refine zen.partial_correctness s0 s7 s8 (motive := fun s9 r => ∀ k : List Fr, zbU s0 s7 s8 k r (zbT s0 s7 s8 s9 k)) ?_ s9
 intro rec hrec s9
 refine Le.pc ?_
 intro k
 unfold zbT zkt
 repeat' (try conv => arg 3; simp (maxSteps := 999999) only [sx, ty, ↓reduceIte, seval, *, ztB]); first
  | (refine Le.call (zna _) fun _ _ _ hy => ?_; obtain ⟨_, rfl⟩ := hy)
  | with_reducible refine Le.idx fun _ _ _ _ => ?_
  | with_reducible refine Le.bool (fun _ => ?_) (fun _ => ?_)
  | ((with_reducible refine Le.ret ?_); first | exact rfl | exact Pu.mk)
  | with_reducible refine Le.itq (fun _ => ?_) (fun _ => ?_)
  | exact fun r hr => hrec _ r hr k
theorem zkT (p0 : List TObject) : Le (fun r x => Pu (D.bool r) [] x) (zeo p0) (zab T 161 [D.sl false 10 (List.map (TObject.e false) p0), D.fn 162 []] []) := by
 unfold zeo
 refine Le.enter (g := v161) rfl rfl rfl rfl ?_
 repeat' (try conv => arg 3; simp (maxSteps := 999999) only [sx, ty, ↓reduceIte, seval, *, ztB, v161, zvM]); first
  | (refine Le.via (ziS _ _ _ _ _) fun t _ _ hy => ?_; rcases t with t | t <;> (try dsimp only [zbU] at hy; first | subst hy | obtain ⟨_, rfl⟩ := hy))
  | ((with_reducible refine Le.ret ?_); first | exact rfl | exact Pu.mk)
theorem zfa (sto : List (List D)) : zab T 255 [.nils 4, .int .i64 0] sto = some (.nils 4, [], sto) := by
 rw [zag T (g := v255) rfl rfl rfl _ _ rfl]
 simp (maxSteps := 9999999) (disch := omega) only [vx, px, ty, ↓reduceIte, seval, fx, vxd, Nat.reduceBNe, most, ifT, ifF, v255, zvU, Int.reduceToNat, Int.toNat_zero, zdX.eq_3]
theorem zfb (n : Int) (sto : List (List D)) (h : 0 < n) (h2 : n ≤ 2147483648) : zab T 255 [.nils 4, .int .i64 n] sto = some (.sl true 4 [], [], sto) := by
 rw [zag T (g := v255) rfl rfl rfl _ _ rfl]
 simp (maxSteps := 9999999) (disch := omega) only [vx, px, ty, ↓reduceIte, seval, fx, vxd, Nat.reduceBNe, most, ifT, ifF, v255, zvU, Int.reduceToNat, Int.toNat_zero, zdX.eq_3, znR, Int.sub_zero]
theorem zfS (a b : List TValue) (sto : List (List D)) (h : a.length + b.length ≤ 2147483648) : zab T 223 [.sl false 1 [.sl false 4 (a.map (TValue.e false)), .sl false 4 (b.map (TValue.e false))]] sto = some (.sl true 4 ((a ++ b).map (TValue.e false)), [], sto) := by
 by_cases h0 : a.length + b.length = 0
 ·obtain rfl : a = [] := List.length_eq_zero_iff.1 (by omega)
  obtain rfl : b = [] := List.length_eq_zero_iff.1 (by omega)
  have e0 : ((0 : Nat) : Int) + ((0 : Nat) : Int) = 0 := rfl
  rw [zag T (g := v223) rfl rfl rfl _ _ rfl]
  simp (maxSteps := 9999999) (disch := omega) only [vx, px, ty, ↓reduceIte, seval, fx, vxd, Nat.reduceBNe, most, ifT, ifF, v223, zvQ, zyY, zps, zyZ, zpt, List.length_map, zfa, Int.reduceToNat, Int.toNat_zero, zdX.eq_3, Int.add_zero, Int.zero_add, Int.reduceAdd, e0]
 ·rw [List.map_append]
  have e1 := fun sto => zfb ((a.length : Int) + (b.length : Int)) sto (by omega) (by omega)
  rw [zag T (g := v223) rfl rfl rfl _ _ rfl]
  simp (maxSteps := 9999999) (disch := omega) only [vx, px, ty, ↓reduceIte, seval, fx, vxd, Nat.reduceBNe, most, ifT, ifF, v223, zvQ, zyY, zps, zyZ, zpt, List.length_map, e1, Int.reduceToNat, Int.reduceAdd, Int.zero_add, Int.toNat_zero, zdX.eq_3]
theorem zfT (a b : List TValue) : Le (fun r x => Pu (D.sl true 4 (List.map (TValue.e false) r)) [] x) (zbN a b) (zab T 223 [D.sl false 1 [D.sl false 4 (List.map (TValue.e false) a), D.sl false 4 (List.map (TValue.e false) b)]] []) := by
 unfold zbN
 refine Le.chk fun h => Le.ret ?_
 exact ⟨_, zfS a b [] h⟩
theorem zkU (p0 : TObject) : Le (fun r x => Pu (D.sl true 4 (List.map (TValue.e false) r)) [] x) (zfP p0) (zab T 164 [D.agg [D.int .i64 p0.Id, D.int .i64 p0.Kind, D.str p0.Name, D.int .i64 p0.Low, D.sl false 4 (List.map (TValue.e false) p0.Keys), D.sl false 4 (List.map (TValue.e false) p0.Vals), D.int .i64 p0.Default.Kind, D.int .i64 p0.Default.Num, D.str p0.Default.Text, D.int .i64 p0.Default.Ref]] []) := by
 unfold zfP
 refine Le.enter (g := v164) rfl rfl rfl rfl ?_
 try conv => arg 3; simp (maxSteps := 999999) only [sx, ty, ↓reduceIte, seval, *, v164, znV]
 refine Le.call (zfT p0.Keys p0.Vals) fun r9 h _ hy => ?_
 obtain ⟨_, rfl⟩ := hy
 try conv => arg 3; simp (maxSteps := 999999) only [sx, ty, ↓reduceIte, seval, *, v164, znV]
 refine Le.itq (fun h_1 => ?_) (fun h_1 => ?_)
 ·try conv => arg 3; simp (maxSteps := 999999) only [sx, ty, ↓reduceIte, seval, *, v164, znV]
  refine Le.app fun c17 h_2 h_3 => ?_
  replace h_2 : List.map (TValue.e false) r9 ++ [D.agg [D.int .i64 p0.Default.Kind, D.int .i64 p0.Default.Num, D.str p0.Default.Text, D.int .i64 p0.Default.Ref]] = List.map (TValue.e false) c17 := by rw [h_2, List.map_append] <;> rfl
  replace h_3 : r9.length + 1 ≤ most := h_3
  try conv => arg 3; simp (maxSteps := 999999) only [sx, ty, ↓reduceIte, seval, *, v164, znV]
  ((with_reducible refine Le.ret ?_); first | exact rfl | exact Pu.mk)
 ·try conv => arg 3; simp (maxSteps := 999999) only [sx, ty, ↓reduceIte, seval, *, v164, znV]
  ((with_reducible refine Le.ret ?_); first | exact rfl | exact Pu.mk)
theorem zuj (p0 : Int) : Le (fun r x => Pu (D.bool r) [] x) (zqa p0) (zab T 185 [D.int .i64 p0] []) := by
 unfold zqa
 refine Le.enter (g := v185) rfl rfl rfl rfl ?_
 repeat' (try conv => arg 3; simp (maxSteps := 999999) only [sx, ty, ↓reduceIte, seval, *, v185, zyA]); first
  | (refine Le.call (zdV _ _ _) fun _ _ _ hy => ?_; obtain ⟨_, rfl⟩ := hy)
  | ((with_reducible refine Le.ret ?_); first | exact rfl | exact Pu.mk)
theorem zkV (p0 : Int) : Le (fun r x => Pu (D.bool r) [] x) (zep p0) (zab T 260 [D.int .i64 p0] []) := by
 unfold zep
 refine Le.enter (g := v260) rfl rfl rfl rfl ?_
 try conv => arg 3; simp (maxSteps := 999999) only [sx, ty, ↓reduceIte, seval, *, v260, zzE]
 ((with_reducible refine Le.ret ?_); first | exact rfl | exact Pu.mk)
theorem zju (p0 : Int) (p1 : Int) : Le (fun r x => Pu (D.int .i64 r) [] x) (zeN p0 p1) (zab T 231 [D.int .i64 p0, D.int .i64 p1] []) := by
 unfold zeN
 refine Le.enter (g := v231) rfl rfl rfl rfl ?_
 repeat' (try conv => arg 3; simp (maxSteps := 999999) only [sx, ty, ↓reduceIte, seval, *, v231, zzj]); first
  | (refine Le.call (zkV _) fun _ _ _ hy => ?_; obtain ⟨_, rfl⟩ := hy)
  | with_reducible refine Le.bool (fun _ => ?_) (fun _ => ?_)
  | ((with_reducible refine Le.ret ?_); first | exact rfl | exact Pu.mk)
  | with_reducible refine Le.itq (fun _ => ?_) (fun _ => ?_)
theorem zir (p0 : TObject) (p1 : Int) : Le (fun r x => Pu (D.int .i64 r) [] x) (zfz p0 p1) (zab T 230 [D.agg [D.int .i64 p0.Id, D.int .i64 p0.Kind, D.str p0.Name, D.int .i64 p0.Low, D.sl false 4 (List.map (TValue.e false) p0.Keys), D.sl false 4 (List.map (TValue.e false) p0.Vals), D.int .i64 p0.Default.Kind, D.int .i64 p0.Default.Num, D.str p0.Default.Text, D.int .i64 p0.Default.Ref], D.int .i64 p1] []) := by
 unfold zfz
 refine Le.enter (g := v230) rfl rfl rfl rfl ?_
 repeat' (try conv => arg 3; simp (maxSteps := 999999) only [sx, ty, ↓reduceIte, seval, *, v230, zzi]); first
  | (refine Le.call (zju _ _) fun _ _ _ hy => ?_; obtain ⟨_, rfl⟩ := hy)
  | ((with_reducible refine Le.ret ?_); first | exact rfl | exact Pu.mk)
end Go.Vx.NmZ
