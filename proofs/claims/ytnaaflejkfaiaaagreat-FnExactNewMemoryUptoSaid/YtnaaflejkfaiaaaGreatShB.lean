/-
  What the plain functions give, the program gives too.
-/
import Derived.Test.YtnaaflejkfaiaaaGreatShA
set_option linter.unusedVariables false
set_option linter.unusedSimpArgs false
namespace Go.Vx.NmZ
set_option linter.unusedVariables false
set_option linter.unusedSimpArgs false
set_option maxRecDepth 10000
set_option maxHeartbeats 2000000
noncomputable abbrev zai (s0 : List TObject) (s1 : Int) (s8 : Int) (s9 : Int) (s10 : Int) (k : List Fr) : Option Res := go T (enF [.tmp 6, .tmp 7] []) zpw (.lp zpx :: .bl 0 :: .sq (.clr [6,7,10,11,12,13,14,15,16,17,18,19,20,21,22,23,24,25,26,27,28,29,30,31,32,33,34]) :: k) ⟨[.d (D.sl false 10 (List.map (TObject.e false) s0)), .d (D.int .i64 s1), .d (D.fn 230 []), Z, Z, Z, Z, Z, .d (D.int .i64 s8), .d (D.int .i64 s9), .d (D.int .i64 s10), Z, Z, Z, Z, Z, Z, Z, Z, Z, Z, Z, Z, Z, Z, Z, Z, Z, Z, Z, Z, Z, Z, Z, Z, Z, Z, Z, Z, Z, Z, Z, Z, Z, Z, Z, Z, Z, Z], []⟩
noncomputable abbrev zaj (s0 : List TObject) (s1 : Int) (s8 : Int) (k : List Fr) (t : Int) (x : Option Res) : Prop := x = bk T (enF [.tmp 6, .tmp 7] []) k ⟨[.d (D.sl false 10 (List.map (TObject.e false) s0)), .d (D.int .i64 s1), .d (D.fn 230 []), Z, Z, Z, Z, Z, .d (D.int .i64 s8), .d (D.int .i64 t), Z, Z, Z, Z, Z, Z, Z, Z, Z, Z, Z, Z, Z, Z, Z, Z, Z, Z, Z, Z, Z, Z, Z, Z, Z, Z, Z, Z, Z, Z, Z, Z, Z, Z, Z, Z, Z, Z, Z], []⟩
theorem zbG (s0 : List TObject) (s1 : Int) (s8 : Int) : ∀ (s9 : Int) (s10 : Int) (k : List Fr), Le (zaj s0 s1 s8 k) (zal s0 s1 s8 s9 s10) (zai s0 s1 s8 s9 s10 k) := by
 intro s9 s10 k
 refine Le.cp (X := zai s0 s1 s8 s9 s10) (Q := zaj s0 s1 s8) ?_ k
 refine zal.partial_correctness s0 s1 s8 (motive := fun s9 s10 r => ∀ k : List Fr, zaj s0 s1 s8 k r (zai s0 s1 s8 s9 s10 k)) ?_ s9 s10
 intro rec hrec s9 s10
 refine Le.pc ?_
 intro k
 unfold zai zpw
 repeat' (try conv => arg 3; simp (maxSteps := 999999) only [sx, ty, ↓reduceIte, seval, *, zzg]); first
  | (refine Le.call (zir _ _) fun _ _ _ hy => ?_; obtain ⟨_, rfl⟩ := hy)
  | with_reducible refine Le.idx fun _ _ _ _ => ?_
  | ((with_reducible refine Le.ret ?_); first | exact rfl | exact Pu.mk)
  | with_reducible refine Le.itq (fun _ => ?_) (fun _ => ?_)
  | exact fun r hr => hrec _ _ r hr k
theorem zcj (p0 : List TObject) (p1 : Int) : Le (fun r x => Pu (D.tup [D.int .i64 r.1, D.bool r.2]) [] x) (zay p0 p1) (zab T 229 [D.sl false 10 (List.map (TObject.e false) p0), D.int .i64 p1, D.fn 230 []] []) := by
 unfold zay
 refine Le.enter (g := v229) rfl rfl rfl rfl ?_
 repeat' (try conv => arg 3; simp (maxSteps := 999999) only [sx, ty, ↓reduceIte, seval, *, zzg, v229, zzh]); first
  | (refine Le.via (zbG _ _ _ _ _ _) fun _ _ _ hy => ?_; try dsimp only [zaj] at hy; first | subst hy | obtain ⟨_, rfl⟩ := hy)
  | (refine Le.call (zir _ _) fun _ _ _ hy => ?_; obtain ⟨_, rfl⟩ := hy)
  | with_reducible refine Le.idx fun _ _ _ _ => ?_
  | ((with_reducible refine Le.ret ?_); first | exact rfl | exact Pu.mk)
  | with_reducible refine Le.itq (fun _ => ?_) (fun _ => ?_)
theorem zqh (p0 : THeap) (p1 : Int) : Le (fun r x => Pu (D.int .i64 r) [] x) (zjo p0 p1) (zab T 186 [D.agg [D.int .i64 p0.Next, D.sl false 10 (List.map (TObject.e false) p0.Objects)], D.int .i64 p1] []) := by
 unfold zjo
 refine Le.enter (g := v186) rfl rfl rfl rfl ?_
 repeat' (try conv => arg 3; simp (maxSteps := 999999) only [sx, ty, ↓reduceIte, seval, *, v186, zyB]); first
  | (refine Le.call (zcj _ _) fun _ _ _ hy => ?_; obtain ⟨_, rfl⟩ := hy)
  | with_reducible refine Le.bool (fun _ => ?_) (fun _ => ?_)
  | ((with_reducible refine Le.ret ?_); first | exact rfl | exact Pu.mk)
theorem znx (p0 : Int) : Le (fun r x => Pu (D.int .i64 r) [] x) (zim p0) (zab T 187 [D.int .i64 p0] []) := by
 unfold zim
 refine Le.enter (g := v187) rfl rfl rfl rfl ?_
 try conv => arg 3; simp (maxSteps := 999999) only [sx, ty, ↓reduceIte, seval, *, v187, zyC]
 ((with_reducible refine Le.ret ?_); first | exact rfl | exact Pu.mk)
noncomputable abbrev zhI (s2 : THeap) (s3 : TValue) (k : List Fr) : Option Res := go T (enF [.tmp 4] []) zvt k ⟨[Z, Z, .box [D.int .i64 s2.Next, D.sl false 10 (List.map (TObject.e false) s2.Objects)], .box [D.int .i64 s3.Kind, D.int .i64 s3.Num, D.str s3.Text, D.int .i64 s3.Ref], Z, Z, Z, Z, Z, Z, Z, Z, Z, Z, Z, Z, Z, Z, Z, Z, Z, Z, Z, Z, Z, Z, Z, Z, Z, Z, Z, Z, Z, Z, Z], []⟩
noncomputable abbrev zlz (s2 : THeap) (s3 : TValue) (k : List Fr) (t : Bool) (x : Option Res) : Prop := Pu (D.bool t) [] x
theorem zlA (s2 : THeap) (s3 : TValue) (k : List Fr) : Le (zlz s2 s3 k) (zgI s2 s3) (zhI s2 s3 k) := by
 unfold zgI zhI zvt
 repeat' (try conv => arg 3; simp (maxSteps := 999999) only [sx, ty, ↓reduceIte, seval, *]); first
  | (refine Le.call (zqh _ _) fun _ _ _ hy => ?_; obtain ⟨_, rfl⟩ := hy)
  | (refine Le.dcall (znx _) fun _ _ _ hy => ?_; obtain ⟨_, rfl⟩ := hy)
  | with_reducible refine Le.idx fun _ _ _ _ => ?_
  | ((with_reducible refine Le.ret ?_); first | exact rfl | exact Pu.mk)
  | with_reducible refine Le.itq (fun _ => ?_) (fun _ => ?_)
theorem zqi (p0 : THeap) (p1 : TValue) : Le (fun r x => Pu (D.bool r) [] x) (zjp p0 p1) (zab T 98 [D.agg [D.int .i64 p0.Next, D.sl false 10 (List.map (TObject.e false) p0.Objects)], D.agg [D.int .i64 p1.Kind, D.int .i64 p1.Num, D.str p1.Text, D.int .i64 p1.Ref]] []) := by
 unfold zjp
 refine Le.enter (g := v98) rfl rfl rfl rfl ?_
 repeat' (try conv => arg 3; simp (maxSteps := 999999) only [sx, ty, ↓reduceIte, seval, *, v98, zBU]); first
  | (refine Le.call (zeX _) fun _ _ _ hy => ?_; obtain ⟨_, rfl⟩ := hy)
  | (refine Le.call (zuj _) fun _ _ _ hy => ?_; obtain ⟨_, rfl⟩ := hy)
  | exact zlA _ _ _
  | with_reducible refine Le.bool (fun _ => ?_) (fun _ => ?_)
  | ((with_reducible refine Le.ret ?_); first | exact rfl | exact Pu.mk)
noncomputable abbrev zbH (s0 : List TValue) (s1 : THeap) (s7 : List TValue) (s8 : Int) (s9 : Int) (k : List Fr) : Option Res := go T (enF [.tmp 4] []) zlm (.lp znU :: .bl 0 :: .sq (.clr [4,6,7,8,9,10,11,12,13,14,15,16,17]) :: k) ⟨[.d (D.sl false 4 (List.map (TValue.e false) s0)), .d (D.bf 98 [D.agg [D.int .i64 s1.Next, D.sl false 10 (List.map (TObject.e false) s1.Objects)]]), Z, Z, Z, Z, Z, .d (D.sl false 4 (List.map (TValue.e false) s7)), .d (D.int .i64 s8), .d (D.int .i64 s9), Z, Z, Z, Z, Z, Z, Z, Z], []⟩
noncomputable abbrev zbI (s0 : List TValue) (s1 : THeap) (s7 : List TValue) (s8 : Int) (k : List Fr) (t : (Unit ⊕ Bool)) (x : Option Res) : Prop := match t with | .inl t => x = bk T (enF [.tmp 4] []) k ⟨[.d (D.sl false 4 (List.map (TValue.e false) s0)), .d (D.bf 98 [D.agg [D.int .i64 s1.Next, D.sl false 10 (List.map (TObject.e false) s1.Objects)]]), Z, Z, Z, Z, Z, Z, Z, Z, Z, Z, Z, Z, Z, Z, Z, Z], []⟩ | .inr t => Pu (D.bool t) [] x
theorem zis (s0 : List TValue) (s1 : THeap) (s7 : List TValue) (s8 : Int) : ∀ (s9 : Int) (k : List Fr), Le (zbI s0 s1 s7 s8 k) (zdO s0 s1 s7 s8 s9) (zbH s0 s1 s7 s8 s9 k) := by
 intro s9 k
 refine Le.cp (X := zbH s0 s1 s7 s8 s9) (Q := zbI s0 s1 s7 s8) ?_ k
 refine zdO.partial_correctness s0 s1 s7 s8 (motive := fun s9 r => ∀ k : List Fr, zbI s0 s1 s7 s8 k r (zbH s0 s1 s7 s8 s9 k)) ?_ s9
 intro rec hrec s9
 refine Le.pc ?_
 intro k
 unfold zbH zlm
 repeat' (try conv => arg 3; simp (maxSteps := 999999) only [sx, ty, ↓reduceIte, seval, *, ztZ]); first
  | (refine Le.call (zqi _ _) fun _ _ _ hy => ?_; obtain ⟨_, rfl⟩ := hy)
  | with_reducible refine Le.idx fun _ _ _ _ => ?_
  | with_reducible refine Le.bool (fun _ => ?_) (fun _ => ?_)
  | ((with_reducible refine Le.ret ?_); first | exact rfl | exact Pu.mk)
  | with_reducible refine Le.itq (fun _ => ?_) (fun _ => ?_)
  | exact fun r hr => hrec _ r hr k
theorem zgB (p0 : List TValue) (p1 : THeap) : Le (fun r x => Pu (D.bool r) [] x) (zbx p0 p1) (zab T 96 [D.sl false 4 (List.map (TValue.e false) p0), D.bf 98 [D.agg [D.int .i64 p1.Next, D.sl false 10 (List.map (TObject.e false) p1.Objects)]]] []) := by
 unfold zbx
 refine Le.enter (g := v96) rfl rfl rfl rfl ?_
 repeat' (try conv => arg 3; simp (maxSteps := 999999) only [sx, ty, ↓reduceIte, seval, *, ztZ, v96, zwM]); first
  | (refine Le.via (zis _ _ _ _ _ _) fun t _ _ hy => ?_; rcases t with t | t <;> (try dsimp only [zbI] at hy; first | subst hy | obtain ⟨_, rfl⟩ := hy))
  | ((with_reducible refine Le.ret ?_); first | exact rfl | exact Pu.mk)
theorem znb (p0 : TObject) (g0 : Int) (g0_1 : List TObject) : Le (fun r x => x = some (D.bool r, [], [[D.int .i64 g0, D.sl false 10 (List.map (TObject.e false) g0_1)]])) (zhy p0 g0 g0_1) (zab T 163 [D.agg [D.int .i64 p0.Id, D.int .i64 p0.Kind, D.str p0.Name, D.int .i64 p0.Low, D.sl false 4 (List.map (TValue.e false) p0.Keys), D.sl false 4 (List.map (TValue.e false) p0.Vals), D.int .i64 p0.Default.Kind, D.int .i64 p0.Default.Num, D.str p0.Default.Text, D.int .i64 p0.Default.Ref], D.ref 0 0] [[D.int .i64 g0, D.sl false 10 (List.map (TObject.e false) g0_1)]]) := by
 unfold zhy
 refine Le.enter (g := v163) rfl rfl rfl rfl ?_
 repeat' (try conv => arg 3; simp (maxSteps := 999999) only [sx, ty, ↓reduceIte, seval, *, v163, zxY]); first
  | (refine Le.dcall (zkU _) fun _ _ _ hy => ?_; obtain ⟨_, rfl⟩ := hy)
  | (refine Le.dcall (zgB _ _) fun _ _ _ hy => ?_; obtain ⟨_, rfl⟩ := hy)
  | ((with_reducible refine Le.ret ?_); first | exact rfl | exact Pu.mk)
noncomputable abbrev zbp (s0 : List TObject) (s7 : List TObject) (s8 : Int) (g0 : Int) (g0_1 : List TObject) (s9 : Int) (k : List Fr) : Option Res := go T (enF [.tmp 4] []) zkt (.lp zmG :: .bl 0 :: .sq (.clr [4,6,7,8,9,10,11,12,13,14,15,16,17]) :: k) ⟨[.d (D.sl false 10 (List.map (TObject.e false) s0)), .d (D.fn 163 [D.ref 0 0]), Z, Z, Z, Z, Z, .d (D.sl false 10 (List.map (TObject.e false) s7)), .d (D.int .i64 s8), .d (D.int .i64 s9), Z, Z, Z, Z, Z, Z, Z, Z], [[D.int .i64 g0, D.sl false 10 (List.map (TObject.e false) g0_1)]]⟩
noncomputable abbrev zbq (s0 : List TObject) (s7 : List TObject) (s8 : Int) (g0 : Int) (g0_1 : List TObject) (k : List Fr) (t : (Unit ⊕ Bool)) (x : Option Res) : Prop := match t with | .inl t => x = bk T (enF [.tmp 4] []) k ⟨[.d (D.sl false 10 (List.map (TObject.e false) s0)), .d (D.fn 163 [D.ref 0 0]), Z, Z, Z, Z, Z, Z, Z, Z, Z, Z, Z, Z, Z, Z, Z, Z], [[D.int .i64 g0, D.sl false 10 (List.map (TObject.e false) g0_1)]]⟩ | .inr t => x = some (D.bool t, [], [[D.int .i64 g0, D.sl false 10 (List.map (TObject.e false) g0_1)]])
theorem zhM (s0 : List TObject) (s7 : List TObject) (s8 : Int) (g0 : Int) (g0_1 : List TObject) : ∀ (s9 : Int) (k : List Fr), Le (zbq s0 s7 s8 g0 g0_1 k) (zds s0 s7 s8 g0 g0_1 s9) (zbp s0 s7 s8 g0 g0_1 s9 k) := by
 intro s9 k
 refine Le.cp (X := zbp s0 s7 s8 g0 g0_1 s9) (Q := zbq s0 s7 s8 g0 g0_1) ?_ k
 refine zds.partial_correctness s0 s7 s8 g0 g0_1 (motive := fun s9 r => ∀ k : List Fr, zbq s0 s7 s8 g0 g0_1 k r (zbp s0 s7 s8 g0 g0_1 s9 k)) ?_ s9
 intro rec hrec s9
 refine Le.pc ?_
 intro k
 unfold zbp zkt
 repeat' (try conv => arg 3; simp (maxSteps := 999999) only [sx, ty, ↓reduceIte, seval, *, ztB]); first
  | (refine Le.call (znb _ _ _) fun _ _ _ hy => ?_; subst hy)
  | with_reducible refine Le.idx fun _ _ _ _ => ?_
  | with_reducible refine Le.bool (fun _ => ?_) (fun _ => ?_)
  | ((with_reducible refine Le.ret ?_); first | exact rfl | exact Pu.mk)
  | with_reducible refine Le.itq (fun _ => ?_) (fun _ => ?_)
  | exact fun r hr => hrec _ r hr k
theorem zjv (p0 : List TObject) (g0 : Int) (g0_1 : List TObject) : Le (fun r x => x = some (D.bool r, [], [[D.int .i64 g0, D.sl false 10 (List.map (TObject.e false) g0_1)]])) (zcZ p0 g0 g0_1) (zab T 161 [D.sl false 10 (List.map (TObject.e false) p0), D.fn 163 [D.ref 0 0]] [[D.int .i64 g0, D.sl false 10 (List.map (TObject.e false) g0_1)]]) := by
 unfold zcZ
 refine Le.enter (g := v161) rfl rfl rfl rfl ?_
 repeat' (try conv => arg 3; simp (maxSteps := 999999) only [sx, ty, ↓reduceIte, seval, *, ztB, v161, zvM]); first
  | (refine Le.via (zhM _ _ _ _ _ _ _) fun t _ _ hy => ?_; rcases t with t | t <;> (try dsimp only [zbq] at hy; first | subst hy | obtain ⟨_, rfl⟩ := hy))
  | ((with_reducible refine Le.ret ?_); first | exact rfl | exact Pu.mk)
noncomputable abbrev zdI (s1 : THeap) (s23 : List TObject) (s24 : Int) (s3 : Int) (s25 : Int) (k : List Fr) : Option Res := go T (enF [.tmp 2] []) ztt (.lp ztu :: .bl 0 :: .sq (.clr [0,2,3,5,6,7,8,9,10,11,12,13,14,15,16,17,18,19,20,21,22,23,24,25,26,27,28,29,30,31,32,33,34,35,36,37,38,39,40,41,42]) :: k) ⟨[Z, .box [D.int .i64 s1.Next, D.sl false 10 (List.map (TObject.e false) s1.Objects)], Z, .d (D.int .i64 s3), Z, Z, Z, Z, Z, Z, Z, Z, Z, Z, Z, Z, Z, Z, Z, Z, Z, Z, .ptr ⟨.slot 1, [], 1⟩, .d (D.sl false 10 (List.map (TObject.e false) s23)), .d (D.int .i64 s24), .d (D.int .i64 s25), Z, Z, Z, Z, Z, Z, Z, Z, Z, Z, Z, Z, Z, Z, Z, Z, Z, Z, Z, Z, Z], []⟩
noncomputable abbrev zdJ (s1 : THeap) (s23 : List TObject) (s24 : Int) (k : List Fr) (t : (Unit ⊕ Bool)) (x : Option Res) : Prop := match t with | .inl t => x = bk T (enF [.tmp 2] []) k ⟨[Z, .box [D.int .i64 s1.Next, D.sl false 10 (List.map (TObject.e false) s1.Objects)], Z, Z, Z, Z, Z, Z, Z, Z, Z, Z, Z, Z, Z, Z, Z, Z, Z, Z, Z, Z, Z, Z, Z, Z, Z, Z, Z, Z, Z, Z, Z, Z, Z, Z, Z, Z, Z, Z, Z, Z, Z, Z, Z, Z, Z], []⟩ | .inr t => Pu (D.bool t) [] x
theorem zlB (s1 : THeap) (s23 : List TObject) (s24 : Int) : ∀ (s3 : Int) (s25 : Int) (k : List Fr), Le (zdJ s1 s23 s24 k) (zgJ s1 s23 s24 s3 s25) (zdI s1 s23 s24 s3 s25 k) := by
 intro s3 s25 k
 refine Le.cp (X := zdI s1 s23 s24 s3 s25) (Q := zdJ s1 s23 s24) ?_ k
 refine zgJ.partial_correctness s1 s23 s24 (motive := fun s3 s25 r => ∀ k : List Fr, zdJ s1 s23 s24 k r (zdI s1 s23 s24 s3 s25 k)) ?_ s3 s25
 intro rec hrec s3 s25
 refine Le.pc ?_
 intro k
 unfold zdI ztt
 repeat' (try conv => arg 3; simp (maxSteps := 999999) only [sx, ty, ↓reduceIte, seval, *, zAp]); first
  | with_reducible refine Le.idx fun _ _ _ _ => ?_
  | ((with_reducible refine Le.ret ?_); first | exact rfl | exact Pu.mk)
  | with_reducible refine Le.itq (fun _ => ?_) (fun _ => ?_)
  | exact fun r hr => hrec _ _ r hr k
noncomputable abbrev zhJ (s1 : THeap) (k : List Fr) : Option Res := go T (enF [.tmp 2] []) zvo k ⟨[Z, .box [D.int .i64 s1.Next, D.sl false 10 (List.map (TObject.e false) s1.Objects)], Z, Z, Z, Z, Z, Z, Z, Z, Z, Z, Z, Z, Z, Z, Z, Z, Z, Z, Z, Z, Z, Z, Z, Z, Z, Z, Z, Z, Z, Z, Z, Z, Z, Z, Z, Z, Z, Z, Z, Z, Z, Z, Z, Z, Z], []⟩
noncomputable abbrev zlC (s1 : THeap) (k : List Fr) (t : Bool) (x : Option Res) : Prop := Pu (D.bool t) [] x
theorem zlD (s1 : THeap) (k : List Fr) : Le (zlC s1 k) (zeR s1) (zhJ s1 k) := by
 unfold zeR zhJ zvo
 repeat' (try conv => arg 3; simp (maxSteps := 999999) only [sx, ty, ↓reduceIte, seval, *, zAp]); first
  | (refine Le.via (zlB _ _ _ _ _ _) fun t _ _ hy => ?_; rcases t with t | t <;> (try dsimp only [zdJ] at hy; first | subst hy | obtain ⟨_, rfl⟩ := hy))
  | (refine Le.call (zjv _ _ _) fun _ _ _ hy => ?_; subst hy)
  | ((with_reducible refine Le.ret ?_); first | exact rfl | exact Pu.mk)
theorem zqj (p0 : THeap) : Le (fun r x => Pu (D.bool r) [] x) (zfQ p0) (zab T 93 [D.agg [D.int .i64 p0.Next, D.sl false 10 (List.map (TObject.e false) p0.Objects)]] []) := by
 unfold zfQ
 refine Le.enter (g := v93) rfl rfl rfl rfl ?_
 repeat' (try conv => arg 3; simp (maxSteps := 999999) only [sx, ty, ↓reduceIte, seval, *, zAp, v93, zBQ]); first
  | (refine Le.call (zdV _ _ _) fun _ _ _ hy => ?_; obtain ⟨_, rfl⟩ := hy)
  | (refine Le.call (zkT _) fun _ _ _ hy => ?_; obtain ⟨_, rfl⟩ := hy)
  | exact zlD _ _
  | with_reducible refine Le.bool (fun _ => ?_) (fun _ => ?_)
  | ((with_reducible refine Le.ret ?_); first | exact rfl | exact Pu.mk)
  | with_reducible refine Le.itq (fun _ => ?_) (fun _ => ?_)
theorem zkW (p0 : TBinding) : Le (fun r x => Pu (D.str r) [] x) (zeq p0) (zab T 166 [D.agg [D.str p0.Name, D.int .i64 p0.Value.Kind, D.int .i64 p0.Value.Num, D.str p0.Value.Text, D.int .i64 p0.Value.Ref]] []) := by
 unfold zeq
 refine Le.enter (g := v166) rfl rfl rfl rfl ?_
 try conv => arg 3; simp (maxSteps := 999999) only [sx, ty, ↓reduceIte, seval, *, v166, zyb]
 ((with_reducible refine Le.ret ?_); first | exact rfl | exact Pu.mk)
noncomputable abbrev zbh (s0 : List TBinding) (s5 : Int) (k : List Fr) : Option Res := go T (enF [.tmp 4] []) zoS (.lp zoT :: .bl 0 :: .sq (.clr [4,5,6,7,8,9,10,11,12,13,14,15,16,17,18,19,20,21,22,23,24,25]) :: k) ⟨[.d (D.sl false 5 (List.map (TBinding.e false) s0)), .d (D.fn 166 []), Z, Z, Z, .d (D.int .i64 s5), Z, Z, Z, Z, Z, Z, Z, Z, Z, Z, Z, Z, Z, Z, Z, Z, Z, Z, Z, Z], []⟩
noncomputable abbrev zbi (s0 : List TBinding) (k : List Fr) (t : (Unit ⊕ Bool)) (x : Option Res) : Prop := match t with | .inl t => x = bk T (enF [.tmp 4] []) k ⟨[.d (D.sl false 5 (List.map (TBinding.e false) s0)), .d (D.fn 166 []), Z, Z, Z, Z, Z, Z, Z, Z, Z, Z, Z, Z, Z, Z, Z, Z, Z, Z, Z, Z, Z, Z, Z, Z], []⟩ | .inr t => Pu (D.bool t) [] x
theorem zhA (s0 : List TBinding) : ∀ (s5 : Int) (k : List Fr), Le (zbi s0 k) (zcV s0 s5) (zbh s0 s5 k) := by
 intro s5 k
 refine Le.cp (X := zbh s0 s5) (Q := zbi s0) ?_ k
 refine zcV.partial_correctness s0 (motive := fun s5 r => ∀ k : List Fr, zbi s0 k r (zbh s0 s5 k)) ?_ s5
 intro rec hrec s5
 refine Le.pc ?_
 intro k
 unfold zbh zoS
 repeat' (try conv => arg 3; simp (maxSteps := 999999) only [sx, ty, ↓reduceIte, seval, *, zxZ]); first
  | (refine Le.dcall (zkW _) fun _ _ _ hy => ?_; obtain ⟨_, rfl⟩ := hy)
  | with_reducible refine Le.idx fun _ _ _ _ => ?_
  | with_reducible refine Le.bool (fun _ => ?_) (fun _ => ?_)
  | ((with_reducible refine Le.ret ?_); first | exact rfl | exact Pu.mk)
  | with_reducible refine Le.itq (fun _ => ?_) (fun _ => ?_)
  | exact fun r hr => hrec _ r hr k
theorem ziT (p0 : List TBinding) : Le (fun r x => Pu (D.bool r) [] x) (zcD p0) (zab T 165 [D.sl false 5 (List.map (TBinding.e false) p0), D.fn 166 []] []) := by
 unfold zcD
 refine Le.enter (g := v165) rfl rfl rfl rfl ?_
 repeat' (try conv => arg 3; simp (maxSteps := 999999) only [sx, ty, ↓reduceIte, seval, *, zxZ, v165, zya]); first
  | (refine Le.via (zhA _ _ _) fun t _ _ hy => ?_; rcases t with t | t <;> (try dsimp only [zbi] at hy; first | subst hy | obtain ⟨_, rfl⟩ := hy))
  | ((with_reducible refine Le.ret ?_); first | exact rfl | exact Pu.mk)
theorem zke (p0 : TFunction) : Le (fun r x => Pu (D.str r) [] x) (zdE p0) (zab T 168 [D.agg [D.str p0.Name, D.sl false 1 (List.map D.str p0.Params), D.sl false 1 (List.map D.str p0.Locals), D.str p0.Label]] []) := by
 unfold zdE
 refine Le.enter (g := v168) rfl rfl rfl rfl ?_
 try conv => arg 3; simp (maxSteps := 999999) only [sx, ty, ↓reduceIte, seval, *, v168, zye]
 ((with_reducible refine Le.ret ?_); first | exact rfl | exact Pu.mk)
noncomputable abbrev zba (s0 : List TFunction) (s5 : Int) (k : List Fr) : Option Res := go T (enF [.tmp 4] []) zoU (.lp zoV :: .bl 0 :: .sq (.clr [4,5,6,7,8,9,10,11,12,13,14,15,16,17,18,19,20,21,22,23,24,25]) :: k) ⟨[.d (D.sl false 4 (List.map (TFunction.e false) s0)), .d (D.fn 168 []), Z, Z, Z, .d (D.int .i64 s5), Z, Z, Z, Z, Z, Z, Z, Z, Z, Z, Z, Z, Z, Z, Z, Z, Z, Z, Z, Z], []⟩
noncomputable abbrev zbb (s0 : List TFunction) (k : List Fr) (t : (Unit ⊕ Bool)) (x : Option Res) : Prop := match t with | .inl t => x = bk T (enF [.tmp 4] []) k ⟨[.d (D.sl false 4 (List.map (TFunction.e false) s0)), .d (D.fn 168 []), Z, Z, Z, Z, Z, Z, Z, Z, Z, Z, Z, Z, Z, Z, Z, Z, Z, Z, Z, Z, Z, Z, Z, Z], []⟩ | .inr t => Pu (D.bool t) [] x
theorem zhc (s0 : List TFunction) : ∀ (s5 : Int) (k : List Fr), Le (zbb s0 k) (zcB s0 s5) (zba s0 s5 k) := by
 intro s5 k
 refine Le.cp (X := zba s0 s5) (Q := zbb s0) ?_ k
 refine zcB.partial_correctness s0 (motive := fun s5 r => ∀ k : List Fr, zbb s0 k r (zba s0 s5 k)) ?_ s5
 intro rec hrec s5
 refine Le.pc ?_
 intro k
 unfold zba zoU
 repeat' (try conv => arg 3; simp (maxSteps := 999999) only [sx, ty, ↓reduceIte, seval, *, zyc]); first
  | (refine Le.dcall (zke _) fun _ _ _ hy => ?_; obtain ⟨_, rfl⟩ := hy)
  | with_reducible refine Le.idx fun _ _ _ _ => ?_
  | with_reducible refine Le.bool (fun _ => ?_) (fun _ => ?_)
  | ((with_reducible refine Le.ret ?_); first | exact rfl | exact Pu.mk)
  | with_reducible refine Le.itq (fun _ => ?_) (fun _ => ?_)
  | exact fun r hr => hrec _ r hr k
theorem zit (p0 : List TFunction) : Le (fun r x => Pu (D.bool r) [] x) (zcl p0) (zab T 167 [D.sl false 4 (List.map (TFunction.e false) p0), D.fn 168 []] []) := by
 unfold zcl
 refine Le.enter (g := v167) rfl rfl rfl rfl ?_
 repeat' (try conv => arg 3; simp (maxSteps := 999999) only [sx, ty, ↓reduceIte, seval, *, zyc, v167, zyd]); first
  | (refine Le.via (zhc _ _ _) fun t _ _ hy => ?_; rcases t with t | t <;> (try dsimp only [zbb] at hy; first | subst hy | obtain ⟨_, rfl⟩ := hy))
  | ((with_reducible refine Le.ret ?_); first | exact rfl | exact Pu.mk)
theorem zny (p0 : TRecordType) : Le (fun r x => Pu (D.str r) [] x) (zgl p0) (zab T 170 [D.agg [D.str p0.Name, D.sl false 1 (List.map D.str p0.Fields)]] []) := by
 unfold zgl
 refine Le.enter (g := v170) rfl rfl rfl rfl ?_
 try conv => arg 3; simp (maxSteps := 999999) only [sx, ty, ↓reduceIte, seval, *, v170, zyh]
 ((with_reducible refine Le.ret ?_); first | exact rfl | exact Pu.mk)
noncomputable abbrev zaO (s0 : List TRecordType) (s5 : Int) (k : List Fr) : Option Res := go T (enF [.tmp 4] []) zoW (.lp zoX :: .bl 0 :: .sq (.clr [4,5,6,7,8,9,10,11,12,13,14,15,16,17,18,19,20,21,22,23,24,25]) :: k) ⟨[.d (D.sl false 2 (List.map (TRecordType.e false) s0)), .d (D.fn 170 []), Z, Z, Z, .d (D.int .i64 s5), Z, Z, Z, Z, Z, Z, Z, Z, Z, Z, Z, Z, Z, Z, Z, Z, Z, Z, Z, Z], []⟩
noncomputable abbrev zaP (s0 : List TRecordType) (k : List Fr) (t : (Unit ⊕ Bool)) (x : Option Res) : Prop := match t with | .inl t => x = bk T (enF [.tmp 4] []) k ⟨[.d (D.sl false 2 (List.map (TRecordType.e false) s0)), .d (D.fn 170 []), Z, Z, Z, Z, Z, Z, Z, Z, Z, Z, Z, Z, Z, Z, Z, Z, Z, Z, Z, Z, Z, Z, Z, Z], []⟩ | .inr t => Pu (D.bool t) [] x
theorem zgd (s0 : List TRecordType) : ∀ (s5 : Int) (k : List Fr), Le (zaP s0 k) (zce s0 s5) (zaO s0 s5 k) := by
 intro s5 k
 refine Le.cp (X := zaO s0 s5) (Q := zaP s0) ?_ k
 refine zce.partial_correctness s0 (motive := fun s5 r => ∀ k : List Fr, zaP s0 k r (zaO s0 s5 k)) ?_ s5
 intro rec hrec s5
 refine Le.pc ?_
 intro k
 unfold zaO zoW
 repeat' (try conv => arg 3; simp (maxSteps := 999999) only [sx, ty, ↓reduceIte, seval, *, zyf]); first
  | (refine Le.dcall (zny _) fun _ _ _ hy => ?_; obtain ⟨_, rfl⟩ := hy)
  | with_reducible refine Le.idx fun _ _ _ _ => ?_
  | with_reducible refine Le.bool (fun _ => ?_) (fun _ => ?_)
  | ((with_reducible refine Le.ret ?_); first | exact rfl | exact Pu.mk)
  | with_reducible refine Le.itq (fun _ => ?_) (fun _ => ?_)
  | exact fun r hr => hrec _ r hr k
theorem zhB (p0 : List TRecordType) : Le (fun r x => Pu (D.bool r) [] x) (zbA p0) (zab T 169 [D.sl false 2 (List.map (TRecordType.e false) p0), D.fn 170 []] []) := by
 unfold zbA
 refine Le.enter (g := v169) rfl rfl rfl rfl ?_
 repeat' (try conv => arg 3; simp (maxSteps := 999999) only [sx, ty, ↓reduceIte, seval, *, zyf, v169, zyg]); first
  | (refine Le.via (zgd _ _ _) fun t _ _ hy => ?_; rcases t with t | t <;> (try dsimp only [zaP] at hy; first | subst hy | obtain ⟨_, rfl⟩ := hy))
  | ((with_reducible refine Le.ret ?_); first | exact rfl | exact Pu.mk)
theorem zwP : Le (fun r x => Pu (D.agg [D.int .i64 r.Kind, D.int .i64 r.Num, D.str r.Text, D.int .i64 r.Ref]) [] x) (zvZ) (zab T 256 [] []) := by
 unfold zvZ
 refine Le.enter (g := v256) rfl rfl rfl rfl ?_
 repeat' (try conv => arg 3; simp (maxSteps := 999999) only [sx, ty, ↓reduceIte, seval, *, v256, zzD]); first
  | (refine Le.call (znY _) fun _ _ _ hy => ?_; obtain ⟨_, rfl⟩ := hy)
  | ((with_reducible refine Le.ret ?_); first | exact rfl | exact Pu.mk)
theorem zuk (p0 : TValue) : Le (fun r x => Pu (D.bool r) [] x) (zqb p0) (zab T 224 [D.agg [D.int .i64 p0.Kind, D.int .i64 p0.Num, D.str p0.Text, D.int .i64 p0.Ref]] []) := by
 unfold zqb
 refine Le.enter (g := v224) rfl rfl rfl rfl ?_
 repeat' (try conv => arg 3; simp (maxSteps := 999999) only [sx, ty, ↓reduceIte, seval, *, v224, zza]); first
  | (refine Le.dcall (zwP) fun _ _ _ hy => ?_; obtain ⟨_, rfl⟩ := hy)
  | ((with_reducible refine Le.ret ?_); first | exact rfl | exact Pu.mk)
theorem zjw (p0 : TBinding) : Le (fun r x => Pu (D.bool r) [] x) (zeO p0) (zab T 172 [D.agg [D.str p0.Name, D.int .i64 p0.Value.Kind, D.int .i64 p0.Value.Num, D.str p0.Value.Text, D.int .i64 p0.Value.Ref]] []) := by
 unfold zeO
 refine Le.enter (g := v172) rfl rfl rfl rfl ?_
 repeat' (try conv => arg 3; simp (maxSteps := 999999) only [sx, ty, ↓reduceIte, seval, *, v172, zyk]); first
  | (refine Le.call (zdW _) fun _ _ _ hy => ?_; obtain ⟨_, rfl⟩ := hy)
  | (refine Le.call (zeX _) fun _ _ _ hy => ?_; obtain ⟨_, rfl⟩ := hy)
  | (refine Le.call (zuk _) fun _ _ _ hy => ?_; obtain ⟨_, rfl⟩ := hy)
  | with_reducible refine Le.bool (fun _ => ?_) (fun _ => ?_)
  | ((with_reducible refine Le.ret ?_); first | exact rfl | exact Pu.mk)
noncomputable abbrev zbJ (s0 : List TBinding) (s7 : List TBinding) (s8 : Int) (s9 : Int) (k : List Fr) : Option Res := go T (enF [.tmp 4] []) zoY (.lp zoZ :: .bl 0 :: .sq (.clr [4,6,7,8,9,10,11,12,13,14,15,16,17]) :: k) ⟨[.d (D.sl false 5 (List.map (TBinding.e false) s0)), .d (D.fn 172 []), Z, Z, Z, Z, Z, .d (D.sl false 5 (List.map (TBinding.e false) s7)), .d (D.int .i64 s8), .d (D.int .i64 s9), Z, Z, Z, Z, Z, Z, Z, Z], []⟩
noncomputable abbrev zbK (s0 : List TBinding) (s7 : List TBinding) (s8 : Int) (k : List Fr) (t : (Unit ⊕ Bool)) (x : Option Res) : Prop := match t with | .inl t => x = bk T (enF [.tmp 4] []) k ⟨[.d (D.sl false 5 (List.map (TBinding.e false) s0)), .d (D.fn 172 []), Z, Z, Z, Z, Z, Z, Z, Z, Z, Z, Z, Z, Z, Z, Z, Z], []⟩ | .inr t => Pu (D.bool t) [] x
theorem ziu (s0 : List TBinding) (s7 : List TBinding) (s8 : Int) : ∀ (s9 : Int) (k : List Fr), Le (zbK s0 s7 s8 k) (zdP s0 s7 s8 s9) (zbJ s0 s7 s8 s9 k) := by
 intro s9 k
 refine Le.cp (X := zbJ s0 s7 s8 s9) (Q := zbK s0 s7 s8) ?_ k
 refine zdP.partial_correctness s0 s7 s8 (motive := fun s9 r => ∀ k : List Fr, zbK s0 s7 s8 k r (zbJ s0 s7 s8 s9 k)) ?_ s9
 intro rec hrec s9
 refine Le.pc ?_
 intro k
 unfold zbJ zoY
 repeat' (try conv => arg 3; simp (maxSteps := 999999) only [sx, ty, ↓reduceIte, seval, *, zyi]); first
  | (refine Le.call (zjw _) fun _ _ _ hy => ?_; obtain ⟨_, rfl⟩ := hy)
  | with_reducible refine Le.idx fun _ _ _ _ => ?_
  | with_reducible refine Le.bool (fun _ => ?_) (fun _ => ?_)
  | ((with_reducible refine Le.ret ?_); first | exact rfl | exact Pu.mk)
  | with_reducible refine Le.itq (fun _ => ?_) (fun _ => ?_)
  | exact fun r hr => hrec _ r hr k
theorem zkf (p0 : List TBinding) : Le (fun r x => Pu (D.bool r) [] x) (zdF p0) (zab T 171 [D.sl false 5 (List.map (TBinding.e false) p0), D.fn 172 []] []) := by
 unfold zdF
 refine Le.enter (g := v171) rfl rfl rfl rfl ?_
 repeat' (try conv => arg 3; simp (maxSteps := 999999) only [sx, ty, ↓reduceIte, seval, *, zyi, v171, zyj]); first
  | (refine Le.via (ziu _ _ _ _ _) fun t _ _ hy => ?_; rcases t with t | t <;> (try dsimp only [zbK] at hy; first | subst hy | obtain ⟨_, rfl⟩ := hy))
  | ((with_reducible refine Le.ret ?_); first | exact rfl | exact Pu.mk)
theorem zeE (sto : List (List D)) : zab T 257 [.nils 1, .int .i64 0] sto = some (.nils 1, [], sto) := by
 rw [zag T (g := v257) rfl rfl rfl _ _ rfl]
 simp (maxSteps := 9999999) (disch := omega) only [vx, px, ty, ↓reduceIte, seval, fx, vxd, Nat.reduceBNe, most, ifT, ifF, v257, zvV, Int.reduceToNat, Int.toNat_zero, zdX.eq_3]
theorem zeF (n : Int) (sto : List (List D)) (h : 0 < n) (h2 : n ≤ 2147483648) : zab T 257 [.nils 1, .int .i64 n] sto = some (.sl true 1 [], [], sto) := by
 rw [zag T (g := v257) rfl rfl rfl _ _ rfl]
 simp (maxSteps := 9999999) (disch := omega) only [vx, px, ty, ↓reduceIte, seval, fx, vxd, Nat.reduceBNe, most, ifT, ifF, v257, zvV, Int.reduceToNat, Int.toNat_zero, zdX.eq_3, znR, Int.sub_zero]
theorem zfr (a b : List ByteArray) (sto : List (List D)) (h : a.length + b.length ≤ 2147483648) : zab T 225 [.sl false 1 [.sl false 1 (a.map D.str), .sl false 1 (b.map D.str)]] sto = some (.sl true 1 ((a ++ b).map D.str), [], sto) := by
 by_cases h0 : a.length + b.length = 0
 ·obtain rfl : a = [] := List.length_eq_zero_iff.1 (by omega)
  obtain rfl : b = [] := List.length_eq_zero_iff.1 (by omega)
  have e0 : ((0 : Nat) : Int) + ((0 : Nat) : Int) = 0 := rfl
  rw [zag T (g := v225) rfl rfl rfl _ _ rfl]
  simp (maxSteps := 9999999) (disch := omega) only [vx, px, ty, ↓reduceIte, seval, fx, vxd, Nat.reduceBNe, most, ifT, ifF, v225, zvR, zzb, zpu, zzc, zpv, List.length_map, zeE, Int.reduceToNat, Int.toNat_zero, zdX.eq_3, Int.add_zero, Int.zero_add, Int.reduceAdd, e0]
 ·rw [List.map_append]
  have e1 := fun sto => zeF ((a.length : Int) + (b.length : Int)) sto (by omega) (by omega)
  rw [zag T (g := v225) rfl rfl rfl _ _ rfl]
  simp (maxSteps := 9999999) (disch := omega) only [vx, px, ty, ↓reduceIte, seval, fx, vxd, Nat.reduceBNe, most, ifT, ifF, v225, zvR, zzb, zpu, zzc, zpv, List.length_map, e1, Int.reduceToNat, Int.reduceAdd, Int.zero_add, Int.toNat_zero, zdX.eq_3]
theorem zfs (a b : List ByteArray) : Le (fun r x => Pu (D.sl true 1 (List.map D.str r)) [] x) (zbo a b) (zab T 225 [D.sl false 1 [D.sl false 1 (List.map D.str a), D.sl false 1 (List.map D.str b)]] []) := by
 unfold zbo
 refine Le.chk fun h => Le.ret ?_
 exact ⟨_, zfr a b [] h⟩
noncomputable abbrev zbV (s0 : List ByteArray) (s7 : List ByteArray) (s8 : Int) (s9 : Int) (k : List Fr) : Option Res := go T (enF [.tmp 4] []) zie (.lp zku :: .bl 0 :: .sq (.clr [4,6,7,8,9,10,11,12,13,14,15,16,17]) :: k) ⟨[.d (D.sl false 1 (List.map D.str s0)), .d (D.fn 222 []), Z, Z, Z, Z, Z, .d (D.sl false 1 (List.map D.str s7)), .d (D.int .i64 s8), .d (D.int .i64 s9), Z, Z, Z, Z, Z, Z, Z, Z], []⟩
noncomputable abbrev zbW (s0 : List ByteArray) (s7 : List ByteArray) (s8 : Int) (k : List Fr) (t : (Unit ⊕ Bool)) (x : Option Res) : Prop := match t with | .inl t => x = bk T (enF [.tmp 4] []) k ⟨[.d (D.sl false 1 (List.map D.str s0)), .d (D.fn 222 []), Z, Z, Z, Z, Z, Z, Z, Z, Z, Z, Z, Z, Z, Z, Z, Z], []⟩ | .inr t => Pu (D.bool t) [] x
theorem ziU (s0 : List ByteArray) (s7 : List ByteArray) (s8 : Int) : ∀ (s9 : Int) (k : List Fr), Le (zbW s0 s7 s8 k) (zer s0 s7 s8 s9) (zbV s0 s7 s8 s9 k) := by
 intro s9 k
 refine Le.cp (X := zbV s0 s7 s8 s9) (Q := zbW s0 s7 s8) ?_ k
 refine zer.partial_correctness s0 s7 s8 (motive := fun s9 r => ∀ k : List Fr, zbW s0 s7 s8 k r (zbV s0 s7 s8 s9 k)) ?_ s9
 intro rec hrec s9
 refine Le.pc ?_
 intro k
 unfold zbV zie
 repeat' (try conv => arg 3; simp (maxSteps := 999999) only [sx, ty, ↓reduceIte, seval, *, znW]); first
  | (refine Le.call (zdW _) fun _ _ _ hy => ?_; obtain ⟨_, rfl⟩ := hy)
  | with_reducible refine Le.idx fun _ _ _ _ => ?_
  | with_reducible refine Le.bool (fun _ => ?_) (fun _ => ?_)
  | ((with_reducible refine Le.ret ?_); first | exact rfl | exact Pu.mk)
  | with_reducible refine Le.itq (fun _ => ?_) (fun _ => ?_)
  | exact fun r hr => hrec _ r hr k
theorem zhd (p0 : List ByteArray) : Le (fun r x => Pu (D.bool r) [] x) (zes p0) (zab T 178 [D.sl false 1 (List.map D.str p0), D.fn 222 []] []) := by
 unfold zes
 refine Le.enter (g := v178) rfl rfl rfl rfl ?_
 repeat' (try conv => arg 3; simp (maxSteps := 999999) only [sx, ty, ↓reduceIte, seval, *, znW, v178, ztC]); first
  | (refine Le.via (ziU _ _ _ _ _) fun t _ _ hy => ?_; rcases t with t | t <;> (try dsimp only [zbW] at hy; first | subst hy | obtain ⟨_, rfl⟩ := hy))
  | ((with_reducible refine Le.ret ?_); first | exact rfl | exact Pu.mk)
theorem zfC (xs : List ByteArray) (h : xs.length ≤ 2147483648) : zab T 189 [.sl false 1 (xs.map D.str)] [] = some (.sl true 1 (xs.map D.str), [], []) := by
 cases xs with
 | nil =>
  rw [zag T (g := v189) rfl rfl rfl _ _ rfl]
  simp (maxSteps := 9999999) (disch := omega) only [vx, px, ty, ↓reduceIte, seval, fx, vxd, Nat.reduceBNe, most, ifT, ifF, v189, zvN]
 | cons x xs =>
  rw [List.length_cons] at h
  rw [zag T (g := v189) rfl rfl rfl _ _ rfl]
  simp (maxSteps := 9999999) (disch := omega) only [vx, px, ty, ↓reduceIte, seval, fx, vxd, Nat.reduceBNe, most, ifT, ifF, v189, zvN]
theorem zan (p0 : List ByteArray) : Le (fun r x => Pu (D.sl true 1 (List.map D.str r)) [] x) (zad p0) (zab T 189 [D.sl false 1 (List.map D.str p0)] []) := by
 unfold zad
 refine Le.chk fun h => Le.ret ?_
 exact ⟨_, zfC p0 h⟩
theorem zfU (p0 : List ByteArray) : Le (fun r x => Pu (D.tup []) [D.sl true 1 (List.map D.str r)] x) (zbO p0) (zab T 258 [D.sl true 1 (List.map D.str p0)] []) := by
 unfold zbO
 refine Le.chk fun h => Le.ret ?_
 exact ⟨_, by rw [znC (g := ztW) T rfl, zrH p0 h]; rfl⟩
theorem zfc (p0 : List ByteArray) : Le (fun r x => Pu (D.sl true 1 (List.map D.str r)) [] x) (zbg p0) (zab T 259 [D.sl true 1 (List.map D.str p0)] []) := by
 unfold zbg
 refine Le.chk fun h => Le.ret ?_
 exact ⟨_, by rw [znC (g := ziJ) T rfl, znk p0 h]; rfl⟩
theorem ziv (p0 : List ByteArray) : Le (fun r x => Pu (D.sl true 1 (List.map D.str r)) [] x) (zfA p0) (zab T 226 [D.sl true 1 (List.map D.str p0)] []) := by
 unfold zfA
 refine Le.enter (g := v226) rfl rfl rfl rfl ?_
 repeat' (try conv => arg 3; simp (maxSteps := 999999) only [sx, ty, ↓reduceIte, seval, *, v226, zzd]); first
  | (refine Le.call (zfU _) fun _ _ _ hy => ?_; obtain ⟨_, rfl⟩ := hy)
  | (refine Le.call (zfc _) fun _ _ _ hy => ?_; obtain ⟨_, rfl⟩ := hy)
  | ((with_reducible refine Le.ret ?_); first | exact rfl | exact Pu.mk)
noncomputable abbrev zeD (s1 : TFunction) (s3 : List ByteArray) (s4 : Bool) (k : List Fr) : Option Res := go T (enF [.tmp 2] []) zrR k ⟨[Z, .box [D.str s1.Name, D.sl false 1 (List.map D.str s1.Params), D.sl false 1 (List.map D.str s1.Locals), D.str s1.Label], Z, .d (D.sl true 1 (List.map D.str s3)), .d (D.bool s4), Z, Z, Z, Z, Z, Z, Z, Z, Z, Z, Z, Z, Z, Z, Z, Z, Z, Z, Z, Z, Z, Z, Z, Z, Z, Z, Z, Z, Z, Z, Z, Z, Z, Z, Z, Z, Z, Z, Z, Z], []⟩
noncomputable abbrev zhC (s1 : TFunction) (s3 : List ByteArray) (s4 : Bool) (k : List Fr) (t : Bool) (x : Option Res) : Prop := Pu (D.bool t) [] x
theorem zhD (s1 : TFunction) (s3 : List ByteArray) (s4 : Bool) (k : List Fr) : Le (zhC s1 s3 s4 k) (zbB s1 s3 s4) (zeD s1 s3 s4 k) := by
 unfold zbB zeD zrR
 repeat' (try conv => arg 3; simp (maxSteps := 999999) only [sx, ty, ↓reduceIte, seval, *]); first
  | (refine Le.call (zdW _) fun _ _ _ hy => ?_; obtain ⟨_, rfl⟩ := hy)
  | (refine Le.call (zhd _) fun _ _ _ hy => ?_; obtain ⟨_, rfl⟩ := hy)
  | (refine Le.call (zan _) fun _ _ _ hy => ?_; obtain ⟨_, rfl⟩ := hy)
  | (refine Le.call (ziv _) fun _ _ _ hy => ?_; obtain ⟨_, rfl⟩ := hy)
  | with_reducible refine Le.bool (fun _ => ?_) (fun _ => ?_)
  | ((with_reducible refine Le.ret ?_); first | exact rfl | exact Pu.mk)
theorem ziV (p0 : TFunction) : Le (fun r x => Pu (D.bool r) [] x) (zet p0) (zab T 174 [D.agg [D.str p0.Name, D.sl false 1 (List.map D.str p0.Params), D.sl false 1 (List.map D.str p0.Locals), D.str p0.Label]] []) := by
 unfold zet
 refine Le.enter (g := v174) rfl rfl rfl rfl ?_
 repeat' (try conv => arg 3; simp (maxSteps := 999999) only [sx, ty, ↓reduceIte, seval, *, v174, zyn]); first
  | (refine Le.call (zfs _ _) fun _ _ _ hy => ?_; obtain ⟨_, rfl⟩ := hy)
  | exact zhD _ _ _ _
  | ((with_reducible refine Le.ret ?_); first | exact rfl | exact Pu.mk)
  | with_reducible refine Le.itq (fun _ => ?_) (fun _ => ?_)
noncomputable abbrev zbr (s0 : List TFunction) (s7 : List TFunction) (s8 : Int) (s9 : Int) (k : List Fr) : Option Res := go T (enF [.tmp 4] []) zpa (.lp zpb :: .bl 0 :: .sq (.clr [4,6,7,8,9,10,11,12,13,14,15,16,17]) :: k) ⟨[.d (D.sl false 4 (List.map (TFunction.e false) s0)), .d (D.fn 174 []), Z, Z, Z, Z, Z, .d (D.sl false 4 (List.map (TFunction.e false) s7)), .d (D.int .i64 s8), .d (D.int .i64 s9), Z, Z, Z, Z, Z, Z, Z, Z], []⟩
noncomputable abbrev zbs (s0 : List TFunction) (s7 : List TFunction) (s8 : Int) (k : List Fr) (t : (Unit ⊕ Bool)) (x : Option Res) : Prop := match t with | .inl t => x = bk T (enF [.tmp 4] []) k ⟨[.d (D.sl false 4 (List.map (TFunction.e false) s0)), .d (D.fn 174 []), Z, Z, Z, Z, Z, Z, Z, Z, Z, Z, Z, Z, Z, Z, Z, Z], []⟩ | .inr t => Pu (D.bool t) [] x
theorem zhN (s0 : List TFunction) (s7 : List TFunction) (s8 : Int) : ∀ (s9 : Int) (k : List Fr), Le (zbs s0 s7 s8 k) (zdt s0 s7 s8 s9) (zbr s0 s7 s8 s9 k) := by
 intro s9 k
 refine Le.cp (X := zbr s0 s7 s8 s9) (Q := zbs s0 s7 s8) ?_ k
 refine zdt.partial_correctness s0 s7 s8 (motive := fun s9 r => ∀ k : List Fr, zbs s0 s7 s8 k r (zbr s0 s7 s8 s9 k)) ?_ s9
 intro rec hrec s9
 refine Le.pc ?_
 intro k
 unfold zbr zpa
 repeat' (try conv => arg 3; simp (maxSteps := 999999) only [sx, ty, ↓reduceIte, seval, *, zyl]); first
  | (refine Le.call (ziV _) fun _ _ _ hy => ?_; obtain ⟨_, rfl⟩ := hy)
  | with_reducible refine Le.idx fun _ _ _ _ => ?_
  | with_reducible refine Le.bool (fun _ => ?_) (fun _ => ?_)
  | ((with_reducible refine Le.ret ?_); first | exact rfl | exact Pu.mk)
  | with_reducible refine Le.itq (fun _ => ?_) (fun _ => ?_)
  | exact fun r hr => hrec _ r hr k
theorem zjx (p0 : List TFunction) : Le (fun r x => Pu (D.bool r) [] x) (zda p0) (zab T 173 [D.sl false 4 (List.map (TFunction.e false) p0), D.fn 174 []] []) := by
 unfold zda
 refine Le.enter (g := v173) rfl rfl rfl rfl ?_
 repeat' (try conv => arg 3; simp (maxSteps := 999999) only [sx, ty, ↓reduceIte, seval, *, zyl, v173, zym]); first
  | (refine Le.via (zhN _ _ _ _ _) fun t _ _ hy => ?_; rcases t with t | t <;> (try dsimp only [zbs] at hy; first | subst hy | obtain ⟨_, rfl⟩ := hy))
  | ((with_reducible refine Le.ret ?_); first | exact rfl | exact Pu.mk)
noncomputable abbrev zhK (s0 : List ByteArray) (k : List Fr) : Option Res := go T (enF [.tmp 2] []) zsd k ⟨[.d (D.sl false 1 (List.map D.str s0)), Z, Z, Z, Z, Z, Z, Z, Z, Z, Z, Z, Z, Z, Z, Z, Z, Z, Z, Z, Z, Z, Z], []⟩
noncomputable abbrev zlE (s0 : List ByteArray) (k : List Fr) (t : Bool) (x : Option Res) : Prop := Pu (D.bool t) [] x
theorem zlF (s0 : List ByteArray) (k : List Fr) : Le (zlE s0 k) (zgK s0) (zhK s0 k) := by
 unfold zgK zhK zsd
 repeat' (try conv => arg 3; simp (maxSteps := 999999) only [sx, ty, ↓reduceIte, seval, *]); first
  | (refine Le.call (zan _) fun _ _ _ hy => ?_; obtain ⟨_, rfl⟩ := hy)
  | (refine Le.call (ziv _) fun _ _ _ hy => ?_; obtain ⟨_, rfl⟩ := hy)
  | ((with_reducible refine Le.ret ?_); first | exact rfl | exact Pu.mk)
theorem zqk (p0 : List ByteArray) : Le (fun r x => Pu (D.bool r) [] x) (zjq p0) (zab T 227 [D.sl false 1 (List.map D.str p0)] []) := by
 unfold zjq
 refine Le.enter (g := v227) rfl rfl rfl rfl ?_
 repeat' (try conv => arg 3; simp (maxSteps := 999999) only [sx, ty, ↓reduceIte, seval, *, v227, zze]); first
  | (refine Le.call (zhd _) fun _ _ _ hy => ?_; obtain ⟨_, rfl⟩ := hy)
  | exact zlF _ _
  | ((with_reducible refine Le.ret ?_); first | exact rfl | exact Pu.mk)
  | with_reducible refine Le.bool (fun _ => ?_) (fun _ => ?_)
  | with_reducible refine Le.itq (fun _ => ?_) (fun _ => ?_)
theorem zhO (p0 : TRecordType) : Le (fun r x => Pu (D.bool r) [] x) (zdu p0) (zab T 176 [D.agg [D.str p0.Name, D.sl false 1 (List.map D.str p0.Fields)]] []) := by
 unfold zdu
 refine Le.enter (g := v176) rfl rfl rfl rfl ?_
 repeat' (try conv => arg 3; simp (maxSteps := 999999) only [sx, ty, ↓reduceIte, seval, *, v176, zyq]); first
  | (refine Le.call (zdW _) fun _ _ _ hy => ?_; obtain ⟨_, rfl⟩ := hy)
  | (refine Le.call (zqk _) fun _ _ _ hy => ?_; obtain ⟨_, rfl⟩ := hy)
  | with_reducible refine Le.bool (fun _ => ?_) (fun _ => ?_)
  | ((with_reducible refine Le.ret ?_); first | exact rfl | exact Pu.mk)
noncomputable abbrev zbc (s0 : List TRecordType) (s7 : List TRecordType) (s8 : Int) (s9 : Int) (k : List Fr) : Option Res := go T (enF [.tmp 4] []) zpc (.lp zpd :: .bl 0 :: .sq (.clr [4,6,7,8,9,10,11,12,13,14,15,16,17]) :: k) ⟨[.d (D.sl false 2 (List.map (TRecordType.e false) s0)), .d (D.fn 176 []), Z, Z, Z, Z, Z, .d (D.sl false 2 (List.map (TRecordType.e false) s7)), .d (D.int .i64 s8), .d (D.int .i64 s9), Z, Z, Z, Z, Z, Z, Z, Z], []⟩
noncomputable abbrev zbd (s0 : List TRecordType) (s7 : List TRecordType) (s8 : Int) (k : List Fr) (t : (Unit ⊕ Bool)) (x : Option Res) : Prop := match t with | .inl t => x = bk T (enF [.tmp 4] []) k ⟨[.d (D.sl false 2 (List.map (TRecordType.e false) s0)), .d (D.fn 176 []), Z, Z, Z, Z, Z, Z, Z, Z, Z, Z, Z, Z, Z, Z, Z, Z], []⟩ | .inr t => Pu (D.bool t) [] x
theorem zhe (s0 : List TRecordType) (s7 : List TRecordType) (s8 : Int) : ∀ (s9 : Int) (k : List Fr), Le (zbd s0 s7 s8 k) (zcC s0 s7 s8 s9) (zbc s0 s7 s8 s9 k) := by
 intro s9 k
 refine Le.cp (X := zbc s0 s7 s8 s9) (Q := zbd s0 s7 s8) ?_ k
 refine zcC.partial_correctness s0 s7 s8 (motive := fun s9 r => ∀ k : List Fr, zbd s0 s7 s8 k r (zbc s0 s7 s8 s9 k)) ?_ s9
 intro rec hrec s9
 refine Le.pc ?_
 intro k
 unfold zbc zpc
 repeat' (try conv => arg 3; simp (maxSteps := 999999) only [sx, ty, ↓reduceIte, seval, *, zyo]); first
  | (refine Le.call (zhO _) fun _ _ _ hy => ?_; obtain ⟨_, rfl⟩ := hy)
  | with_reducible refine Le.idx fun _ _ _ _ => ?_
  | with_reducible refine Le.bool (fun _ => ?_) (fun _ => ?_)
  | ((with_reducible refine Le.ret ?_); first | exact rfl | exact Pu.mk)
  | with_reducible refine Le.itq (fun _ => ?_) (fun _ => ?_)
  | exact fun r hr => hrec _ r hr k
theorem ziw (p0 : List TRecordType) : Le (fun r x => Pu (D.bool r) [] x) (zcm p0) (zab T 175 [D.sl false 2 (List.map (TRecordType.e false) p0), D.fn 176 []] []) := by
 unfold zcm
 refine Le.enter (g := v175) rfl rfl rfl rfl ?_
 repeat' (try conv => arg 3; simp (maxSteps := 999999) only [sx, ty, ↓reduceIte, seval, *, zyo, v175, zyp]); first
  | (refine Le.via (zhe _ _ _ _ _) fun t _ _ hy => ?_; rcases t with t | t <;> (try dsimp only [zbd] at hy; first | subst hy | obtain ⟨_, rfl⟩ := hy))
  | ((with_reducible refine Le.ret ?_); first | exact rfl | exact Pu.mk)
noncomputable abbrev zhf (s1 : TScope) (s3 : Bool) (k : List Fr) : Option Res := go T (enF [.tmp 2] []) zvp k ⟨[Z, .box [D.sl false 5 (List.map (TBinding.e false) s1.Vars), D.sl false 4 (List.map (TFunction.e false) s1.Functions), D.sl false 2 (List.map (TRecordType.e false) s1.Types)], Z, .d (D.bool s3), Z, Z, Z, Z, Z, Z, Z, Z, Z, Z, Z, Z, Z, Z, Z, Z, Z, Z, Z, Z, Z, Z, Z, Z, Z, Z, Z, Z, Z, Z, Z, Z, Z, Z, Z, Z, Z, Z, Z, Z, Z, Z, Z, Z, Z], []⟩
noncomputable abbrev zhg (s1 : TScope) (s3 : Bool) (k : List Fr) (t : Bool) (x : Option Res) : Prop := Pu (D.bool t) [] x
theorem zkX (s1 : TScope) (s3 : Bool) (k : List Fr) : Le (zhg s1 s3 k) (zcf s1 s3) (zhf s1 s3 k) := by
 unfold zcf zhf zvp
 repeat' (try conv => arg 3; simp (maxSteps := 999999) only [sx, ty, ↓reduceIte, seval, *]); first
  | (refine Le.call (zkf _) fun _ _ _ hy => ?_; obtain ⟨_, rfl⟩ := hy)
  | (refine Le.call (zjx _) fun _ _ _ hy => ?_; obtain ⟨_, rfl⟩ := hy)
  | (refine Le.call (ziw _) fun _ _ _ hy => ?_; obtain ⟨_, rfl⟩ := hy)
  | with_reducible refine Le.bool (fun _ => ?_) (fun _ => ?_)
  | ((with_reducible refine Le.ret ?_); first | exact rfl | exact Pu.mk)
noncomputable abbrev zhh (s1 : TScope) (k : List Fr) : Option Res := go T (enF [.tmp 2] []) zvq k ⟨[Z, .box [D.sl false 5 (List.map (TBinding.e false) s1.Vars), D.sl false 4 (List.map (TFunction.e false) s1.Functions), D.sl false 2 (List.map (TRecordType.e false) s1.Types)], Z, Z, Z, Z, Z, Z, Z, Z, Z, Z, Z, Z, Z, Z, Z, Z, Z, Z, Z, Z, Z, Z, Z, Z, Z, Z, Z, Z, Z, Z, Z, Z, Z, Z, Z, Z, Z, Z, Z, Z, Z, Z, Z, Z, Z, Z, Z], []⟩
noncomputable abbrev zkY (s1 : TScope) (k : List Fr) (t : Bool) (x : Option Res) : Prop := Pu (D.bool t) [] x
theorem zkZ (s1 : TScope) (k : List Fr) : Le (zkY s1 k) (zeu s1) (zhh s1 k) := by
 unfold zeu zhh zvq
 repeat' (try conv => arg 3; simp (maxSteps := 999999) only [sx, ty, ↓reduceIte, seval, *]); first
  | (refine Le.call (ziT _) fun _ _ _ hy => ?_; obtain ⟨_, rfl⟩ := hy)
  | (refine Le.call (zit _) fun _ _ _ hy => ?_; obtain ⟨_, rfl⟩ := hy)
  | (refine Le.call (zhB _) fun _ _ _ hy => ?_; obtain ⟨_, rfl⟩ := hy)
  | (refine Le.via (zkX _ _ _) fun _ _ _ hy => ?_; try dsimp only [zhg] at hy; first | subst hy | obtain ⟨_, rfl⟩ := hy)
  | with_reducible refine Le.bool (fun _ => ?_) (fun _ => ?_)
  | ((with_reducible refine Le.ret ?_); first | exact rfl | exact Pu.mk)
theorem znz (p0 : TScope) : Le (fun r x => Pu (D.bool r) [] x) (zeZ p0) (zab T 94 [D.agg [D.sl false 5 (List.map (TBinding.e false) p0.Vars), D.sl false 4 (List.map (TFunction.e false) p0.Functions), D.sl false 2 (List.map (TRecordType.e false) p0.Types)]] []) := by
 unfold zeZ
 refine Le.enter (g := v94) rfl rfl rfl rfl ?_
 repeat' (try conv => arg 3; simp (maxSteps := 999999) only [sx, ty, ↓reduceIte, seval, *, v94, zBR]); first
  | exact zkZ _ _
  | ((with_reducible refine Le.ret ?_); first | exact rfl | exact Pu.mk)
  | with_reducible refine Le.itq (fun _ => ?_) (fun _ => ?_)
theorem zsB (p0 : ByteArray) : Le (fun r x => Pu (D.bool r) [] x) (zjR p0) (zab T 179 [D.str p0] []) := by
 unfold zjR
 refine Le.enter (g := v179) rfl rfl rfl rfl ?_
 try conv => arg 3; simp (maxSteps := 999999) only [sx, ty, ↓reduceIte, seval, *, v179, zys]
 ((with_reducible refine Le.ret ?_); first | exact rfl | exact Pu.mk)
noncomputable abbrev zbt (s0 : List ByteArray) (s7 : List ByteArray) (s8 : Int) (s9 : Int) (k : List Fr) : Option Res := go T (enF [.tmp 4] []) zie (.lp zku :: .bl 0 :: .sq (.clr [4,6,7,8,9,10,11,12,13,14,15,16,17]) :: k) ⟨[.d (D.sl false 1 (List.map D.str s0)), .d (D.fn 179 []), Z, Z, Z, Z, Z, .d (D.sl false 1 (List.map D.str s7)), .d (D.int .i64 s8), .d (D.int .i64 s9), Z, Z, Z, Z, Z, Z, Z, Z], []⟩
noncomputable abbrev zbu (s0 : List ByteArray) (s7 : List ByteArray) (s8 : Int) (k : List Fr) (t : (Unit ⊕ Bool)) (x : Option Res) : Prop := match t with | .inl t => x = bk T (enF [.tmp 4] []) k ⟨[.d (D.sl false 1 (List.map D.str s0)), .d (D.fn 179 []), Z, Z, Z, Z, Z, Z, Z, Z, Z, Z, Z, Z, Z, Z, Z, Z], []⟩ | .inr t => Pu (D.bool t) [] x
theorem zhP (s0 : List ByteArray) (s7 : List ByteArray) (s8 : Int) : ∀ (s9 : Int) (k : List Fr), Le (zbu s0 s7 s8 k) (zbQ s0 s7 s8 s9) (zbt s0 s7 s8 s9 k) := by
 intro s9 k
 refine Le.cp (X := zbt s0 s7 s8 s9) (Q := zbu s0 s7 s8) ?_ k
 refine zbQ.partial_correctness s0 s7 s8 (motive := fun s9 r => ∀ k : List Fr, zbu s0 s7 s8 k r (zbt s0 s7 s8 s9 k)) ?_ s9
 intro rec hrec s9
 refine Le.pc ?_
 intro k
 unfold zbt zie
 repeat' (try conv => arg 3; simp (maxSteps := 999999) only [sx, ty, ↓reduceIte, seval, *, znW]); first
  | (refine Le.call (zsB _) fun _ _ _ hy => ?_; obtain ⟨_, rfl⟩ := hy)
  | with_reducible refine Le.idx fun _ _ _ _ => ?_
  | with_reducible refine Le.bool (fun _ => ?_) (fun _ => ?_)
  | ((with_reducible refine Le.ret ?_); first | exact rfl | exact Pu.mk)
  | with_reducible refine Le.itq (fun _ => ?_) (fun _ => ?_)
  | exact fun r hr => hrec _ r hr k
theorem zfV (p0 : List ByteArray) : Le (fun r x => Pu (D.bool r) [] x) (zaR p0) (zab T 178 [D.sl false 1 (List.map D.str p0), D.fn 179 []] []) := by
 unfold zaR
 refine Le.enter (g := v178) rfl rfl rfl rfl ?_
 repeat' (try conv => arg 3; simp (maxSteps := 999999) only [sx, ty, ↓reduceIte, seval, *, znW, v178, ztC]); first
  | (refine Le.via (zhP _ _ _ _ _) fun t _ _ hy => ?_; rcases t with t | t <;> (try dsimp only [zbu] at hy; first | subst hy | obtain ⟨_, rfl⟩ := hy))
  | ((with_reducible refine Le.ret ?_); first | exact rfl | exact Pu.mk)
theorem zkg (p0 : ByteArray) : Le (fun r x => Pu (D.bool r) [] x) (zfl p0) (zab T 177 [D.str p0] []) := by
 unfold zfl
 refine Le.enter (g := v177) rfl rfl rfl rfl ?_
 try conv => arg 3; simp (maxSteps := 999999) only [sx, ty, ↓reduceIte, seval, *, v177, zyr]
 ((with_reducible refine Le.ret ?_); first | exact rfl | exact Pu.mk)
noncomputable abbrev zbv (s0 : List ByteArray) (s7 : List ByteArray) (s8 : Int) (s9 : Int) (k : List Fr) : Option Res := go T (enF [.tmp 4] []) zie (.lp zku :: .bl 0 :: .sq (.clr [4,6,7,8,9,10,11,12,13,14,15,16,17]) :: k) ⟨[.d (D.sl false 1 (List.map D.str s0)), .d (D.fn 177 []), Z, Z, Z, Z, Z, .d (D.sl false 1 (List.map D.str s7)), .d (D.int .i64 s8), .d (D.int .i64 s9), Z, Z, Z, Z, Z, Z, Z, Z], []⟩
noncomputable abbrev zbw (s0 : List ByteArray) (s7 : List ByteArray) (s8 : Int) (k : List Fr) (t : (Unit ⊕ Bool)) (x : Option Res) : Prop := match t with | .inl t => x = bk T (enF [.tmp 4] []) k ⟨[.d (D.sl false 1 (List.map D.str s0)), .d (D.fn 177 []), Z, Z, Z, Z, Z, Z, Z, Z, Z, Z, Z, Z, Z, Z, Z, Z], []⟩ | .inr t => Pu (D.bool t) [] x
theorem zhQ (s0 : List ByteArray) (s7 : List ByteArray) (s8 : Int) : ∀ (s9 : Int) (k : List Fr), Le (zbw s0 s7 s8 k) (zdv s0 s7 s8 s9) (zbv s0 s7 s8 s9 k) := by
 intro s9 k
 refine Le.cp (X := zbv s0 s7 s8 s9) (Q := zbw s0 s7 s8) ?_ k
 refine zdv.partial_correctness s0 s7 s8 (motive := fun s9 r => ∀ k : List Fr, zbw s0 s7 s8 k r (zbv s0 s7 s8 s9 k)) ?_ s9
 intro rec hrec s9
 refine Le.pc ?_
 intro k
 unfold zbv zie
 repeat' (try conv => arg 3; simp (maxSteps := 999999) only [sx, ty, ↓reduceIte, seval, *, znW]); first
  | (refine Le.call (zkg _) fun _ _ _ hy => ?_; obtain ⟨_, rfl⟩ := hy)
  | with_reducible refine Le.idx fun _ _ _ _ => ?_
  | with_reducible refine Le.bool (fun _ => ?_) (fun _ => ?_)
  | ((with_reducible refine Le.ret ?_); first | exact rfl | exact Pu.mk)
  | with_reducible refine Le.itq (fun _ => ?_) (fun _ => ?_)
  | exact fun r hr => hrec _ r hr k
theorem zjy (p0 : List ByteArray) : Le (fun r x => Pu (D.bool r) [] x) (zdb p0) (zab T 178 [D.sl false 1 (List.map D.str p0), D.fn 177 []] []) := by
 unfold zdb
 refine Le.enter (g := v178) rfl rfl rfl rfl ?_
 repeat' (try conv => arg 3; simp (maxSteps := 999999) only [sx, ty, ↓reduceIte, seval, *, znW, v178, ztC]); first
  | (refine Le.via (zhQ _ _ _ _ _) fun t _ _ hy => ?_; rcases t with t | t <;> (try dsimp only [zbw] at hy; first | subst hy | obtain ⟨_, rfl⟩ := hy))
  | ((with_reducible refine Le.ret ?_); first | exact rfl | exact Pu.mk)
theorem zul (p0 : Int) : Le (fun r x => Pu (D.bool r) [] x) (zqc p0) (zab T 228 [D.int .i64 p0] []) := by
 unfold zqc
 refine Le.enter (g := v228) rfl rfl rfl rfl ?_
 repeat' (try conv => arg 3; simp (maxSteps := 999999) only [sx, ty, ↓reduceIte, seval, *, v228, zzf]); first
  | (refine Le.call (zdV _ _ _) fun _ _ _ hy => ?_; obtain ⟨_, rfl⟩ := hy)
  | ((with_reducible refine Le.ret ?_); first | exact rfl | exact Pu.mk)
noncomputable abbrev zfW (s1 : TFile) (s3 : Bool) (s4 : Bool) (k : List Fr) : Option Res := go T (enF [.tmp 2] []) zrS k ⟨[Z, .box [D.str s1.Name, D.sl false 1 (List.map D.str s1.Lines), D.int .i64 s1.Mode, D.int .i64 s1.At], Z, .d (D.bool s3), .d (D.bool s4), Z, Z, Z, Z, Z, Z, Z, Z, Z, Z, Z, Z, Z, Z, Z, Z, Z, Z, Z, Z, Z, Z, Z, Z, Z, Z, Z, Z, Z, Z, Z, Z, Z, Z, Z, Z, Z, Z, Z, Z, Z, Z, Z, Z], []⟩
noncomputable abbrev zfX (s1 : TFile) (s3 : Bool) (s4 : Bool) (k : List Fr) (t : Bool) (x : Option Res) : Prop := Pu (D.bool t) [] x
theorem zjz (s1 : TFile) (s3 : Bool) (s4 : Bool) (k : List Fr) : Le (zfX s1 s3 s4 k) (zcg s1 s3 s4) (zfW s1 s3 s4 k) := by
 unfold zcg zfW zrS
 repeat' (try conv => arg 3; simp (maxSteps := 999999) only [sx, ty, ↓reduceIte, seval, *]); first
  | (refine Le.call (zdW _) fun _ _ _ hy => ?_; obtain ⟨_, rfl⟩ := hy)
  | (refine Le.call (zul _) fun _ _ _ hy => ?_; obtain ⟨_, rfl⟩ := hy)
  | with_reducible refine Le.bool (fun _ => ?_) (fun _ => ?_)
  | ((with_reducible refine Le.ret ?_); first | exact rfl | exact Pu.mk)
  | with_reducible refine Le.itq (fun _ => ?_) (fun _ => ?_)
noncomputable abbrev zfY (s1 : TFile) (s3 : Bool) (k : List Fr) : Option Res := go T (enF [.tmp 2] []) zrT k ⟨[Z, .box [D.str s1.Name, D.sl false 1 (List.map D.str s1.Lines), D.int .i64 s1.Mode, D.int .i64 s1.At], Z, .d (D.bool s3), Z, Z, Z, Z, Z, Z, Z, Z, Z, Z, Z, Z, Z, Z, Z, Z, Z, Z, Z, Z, Z, Z, Z, Z, Z, Z, Z, Z, Z, Z, Z, Z, Z, Z, Z, Z, Z, Z, Z, Z, Z, Z, Z, Z, Z], []⟩
noncomputable abbrev zjA (s1 : TFile) (s3 : Bool) (k : List Fr) (t : Bool) (x : Option Res) : Prop := Pu (D.bool t) [] x
theorem zjB (s1 : TFile) (s3 : Bool) (k : List Fr) : Le (zjA s1 s3 k) (zdc s1 s3) (zfY s1 s3 k) := by
 unfold zdc zfY zrT
 repeat' (try conv => arg 3; simp (maxSteps := 999999) only [sx, ty, ↓reduceIte, seval, *]); first
  | (refine Le.call (zdV _ _ _) fun _ _ _ hy => ?_; obtain ⟨_, rfl⟩ := hy)
  | (refine Le.via (zjz _ _ _ _) fun _ _ _ hy => ?_; try dsimp only [zfX] at hy; first | subst hy | obtain ⟨_, rfl⟩ := hy)
  | with_reducible refine Le.bool (fun _ => ?_) (fun _ => ?_)
  | ((with_reducible refine Le.ret ?_); first | exact rfl | exact Pu.mk)
  | with_reducible refine Le.itq (fun _ => ?_) (fun _ => ?_)
theorem zlG (p0 : TFile) : Le (fun r x => Pu (D.bool r) [] x) (zgL p0) (zab T 181 [D.agg [D.str p0.Name, D.sl false 1 (List.map D.str p0.Lines), D.int .i64 p0.Mode, D.int .i64 p0.At]] []) := by
 unfold zgL
 refine Le.enter (g := v181) rfl rfl rfl rfl ?_
 repeat' (try conv => arg 3; simp (maxSteps := 999999) only [sx, ty, ↓reduceIte, seval, *, v181, zyv]); first
  | (refine Le.call (zfV _) fun _ _ _ hy => ?_; obtain ⟨_, rfl⟩ := hy)
  | exact zjB _ _ _
  | ((with_reducible refine Le.ret ?_); first | exact rfl | exact Pu.mk)
  | with_reducible refine Le.itq (fun _ => ?_) (fun _ => ?_)
noncomputable abbrev zcK (s0 : List TFile) (s7 : List TFile) (s8 : Int) (s9 : Int) (k : List Fr) : Option Res := go T (enF [.tmp 4] []) zpe (.lp zpf :: .bl 0 :: .sq (.clr [4,6,7,8,9,10,11,12,13,14,15,16,17]) :: k) ⟨[.d (D.sl false 4 (List.map (TFile.e false) s0)), .d (D.fn 181 []), Z, Z, Z, Z, Z, .d (D.sl false 4 (List.map (TFile.e false) s7)), .d (D.int .i64 s8), .d (D.int .i64 s9), Z, Z, Z, Z, Z, Z, Z, Z], []⟩
noncomputable abbrev zcL (s0 : List TFile) (s7 : List TFile) (s8 : Int) (k : List Fr) (t : (Unit ⊕ Bool)) (x : Option Res) : Prop := match t with | .inl t => x = bk T (enF [.tmp 4] []) k ⟨[.d (D.sl false 4 (List.map (TFile.e false) s0)), .d (D.fn 181 []), Z, Z, Z, Z, Z, Z, Z, Z, Z, Z, Z, Z, Z, Z, Z, Z], []⟩ | .inr t => Pu (D.bool t) [] x
theorem zkh (s0 : List TFile) (s7 : List TFile) (s8 : Int) : ∀ (s9 : Int) (k : List Fr), Le (zcL s0 s7 s8 k) (zfm s0 s7 s8 s9) (zcK s0 s7 s8 s9 k) := by
 intro s9 k
 refine Le.cp (X := zcK s0 s7 s8 s9) (Q := zcL s0 s7 s8) ?_ k
 refine zfm.partial_correctness s0 s7 s8 (motive := fun s9 r => ∀ k : List Fr, zcL s0 s7 s8 k r (zcK s0 s7 s8 s9 k)) ?_ s9
 intro rec hrec s9
 refine Le.pc ?_
 intro k
 unfold zcK zpe
 repeat' (try conv => arg 3; simp (maxSteps := 999999) only [sx, ty, ↓reduceIte, seval, *, zyt]); first
  | (refine Le.call (zlG _) fun _ _ _ hy => ?_; obtain ⟨_, rfl⟩ := hy)
  | with_reducible refine Le.idx fun _ _ _ _ => ?_
  | with_reducible refine Le.bool (fun _ => ?_) (fun _ => ?_)
  | ((with_reducible refine Le.ret ?_); first | exact rfl | exact Pu.mk)
  | with_reducible refine Le.itq (fun _ => ?_) (fun _ => ?_)
  | exact fun r hr => hrec _ r hr k
theorem znc (p0 : List TFile) : Le (fun r x => Pu (D.bool r) [] x) (zfB p0) (zab T 180 [D.sl false 4 (List.map (TFile.e false) p0), D.fn 181 []] []) := by
 unfold zfB
 refine Le.enter (g := v180) rfl rfl rfl rfl ?_
 repeat' (try conv => arg 3; simp (maxSteps := 999999) only [sx, ty, ↓reduceIte, seval, *, zyt, v180, zyu]); first
  | (refine Le.via (zkh _ _ _ _ _) fun t _ _ hy => ?_; rcases t with t | t <;> (try dsimp only [zcL] at hy; first | subst hy | obtain ⟨_, rfl⟩ := hy))
  | ((with_reducible refine Le.ret ?_); first | exact rfl | exact Pu.mk)
theorem znA (p0 : TFile) : Le (fun r x => Pu (D.str r) [] x) (zgm p0) (zab T 183 [D.agg [D.str p0.Name, D.sl false 1 (List.map D.str p0.Lines), D.int .i64 p0.Mode, D.int .i64 p0.At]] []) := by
 unfold zgm
 refine Le.enter (g := v183) rfl rfl rfl rfl ?_
 try conv => arg 3; simp (maxSteps := 999999) only [sx, ty, ↓reduceIte, seval, *, v183, zyy]
 ((with_reducible refine Le.ret ?_); first | exact rfl | exact Pu.mk)
noncomputable abbrev zbX (s0 : List TFile) (s5 : Int) (k : List Fr) : Option Res := go T (enF [.tmp 4] []) zpg (.lp zph :: .bl 0 :: .sq (.clr [4,5,6,7,8,9,10,11,12,13,14,15,16,17,18,19,20,21,22,23,24,25]) :: k) ⟨[.d (D.sl false 4 (List.map (TFile.e false) s0)), .d (D.fn 183 []), Z, Z, Z, .d (D.int .i64 s5), Z, Z, Z, Z, Z, Z, Z, Z, Z, Z, Z, Z, Z, Z, Z, Z, Z, Z, Z, Z], []⟩
noncomputable abbrev zbY (s0 : List TFile) (k : List Fr) (t : (Unit ⊕ Bool)) (x : Option Res) : Prop := match t with | .inl t => x = bk T (enF [.tmp 4] []) k ⟨[.d (D.sl false 4 (List.map (TFile.e false) s0)), .d (D.fn 183 []), Z, Z, Z, Z, Z, Z, Z, Z, Z, Z, Z, Z, Z, Z, Z, Z, Z, Z, Z, Z, Z, Z, Z, Z], []⟩ | .inr t => Pu (D.bool t) [] x
theorem ziW (s0 : List TFile) : ∀ (s5 : Int) (k : List Fr), Le (zbY s0 k) (zev s0 s5) (zbX s0 s5 k) := by
 intro s5 k
 refine Le.cp (X := zbX s0 s5) (Q := zbY s0) ?_ k
 refine zev.partial_correctness s0 (motive := fun s5 r => ∀ k : List Fr, zbY s0 k r (zbX s0 s5 k)) ?_ s5
 intro rec hrec s5
 refine Le.pc ?_
 intro k
 unfold zbX zpg
 repeat' (try conv => arg 3; simp (maxSteps := 999999) only [sx, ty, ↓reduceIte, seval, *, zyw]); first
  | (refine Le.dcall (znA _) fun _ _ _ hy => ?_; obtain ⟨_, rfl⟩ := hy)
  | with_reducible refine Le.idx fun _ _ _ _ => ?_
  | with_reducible refine Le.bool (fun _ => ?_) (fun _ => ?_)
  | ((with_reducible refine Le.ret ?_); first | exact rfl | exact Pu.mk)
  | with_reducible refine Le.itq (fun _ => ?_) (fun _ => ?_)
  | exact fun r hr => hrec _ r hr k
theorem zla (p0 : List TFile) : Le (fun r x => Pu (D.bool r) [] x) (zew p0) (zab T 182 [D.sl false 4 (List.map (TFile.e false) p0), D.fn 183 []] []) := by
 unfold zew
 refine Le.enter (g := v182) rfl rfl rfl rfl ?_
 repeat' (try conv => arg 3; simp (maxSteps := 999999) only [sx, ty, ↓reduceIte, seval, *, zyw, v182, zyx]); first
  | (refine Le.via (ziW _ _ _) fun t _ _ hy => ?_; rcases t with t | t <;> (try dsimp only [zbY] at hy; first | subst hy | obtain ⟨_, rfl⟩ := hy))
  | ((with_reducible refine Le.ret ?_); first | exact rfl | exact Pu.mk)
noncomputable abbrev zfZ (s1 : TConsole) (s4 : Bool) (k : List Fr) : Option Res := go T (enF [.tmp 2] []) zvr k ⟨[Z, .box [D.sl false 1 (List.map D.str s1.Input), D.int .i64 s1.At, D.sl false 1 (List.map D.str s1.Output), D.sl false 4 (List.map (TFile.e false) s1.Files), D.sl false 1 (List.map D.str s1.Trace)], Z, Z, .d (D.bool s4), Z, Z, Z, Z, Z, Z, Z, Z, Z, Z, Z, Z, Z, Z, Z, Z, Z, Z, Z, Z, Z, Z, Z, Z, Z, Z, Z, Z, Z, Z, Z, Z, Z, Z, Z, Z, Z, Z, Z, Z, Z, Z, Z, Z, Z, Z, Z, Z, Z, Z, Z, Z, Z, Z, Z], []⟩
noncomputable abbrev zga (s1 : TConsole) (s4 : Bool) (k : List Fr) (t : Bool) (x : Option Res) : Prop := Pu (D.bool t) [] x
theorem zjC (s1 : TConsole) (s4 : Bool) (k : List Fr) : Le (zga s1 s4 k) (zbj s1 s4) (zfZ s1 s4 k) := by
 unfold zbj zfZ zvr
 repeat' (try conv => arg 3; simp (maxSteps := 999999) only [sx, ty, ↓reduceIte, seval, *]); first
  | (refine Le.call (zdV _ _ _) fun _ _ _ hy => ?_; obtain ⟨_, rfl⟩ := hy)
  | (refine Le.call (znc _) fun _ _ _ hy => ?_; obtain ⟨_, rfl⟩ := hy)
  | (refine Le.call (zla _) fun _ _ _ hy => ?_; obtain ⟨_, rfl⟩ := hy)
  | with_reducible refine Le.bool (fun _ => ?_) (fun _ => ?_)
  | ((with_reducible refine Le.ret ?_); first | exact rfl | exact Pu.mk)
noncomputable abbrev zgb (s1 : TConsole) (k : List Fr) : Option Res := go T (enF [.tmp 2] []) zvs k ⟨[Z, .box [D.sl false 1 (List.map D.str s1.Input), D.int .i64 s1.At, D.sl false 1 (List.map D.str s1.Output), D.sl false 4 (List.map (TFile.e false) s1.Files), D.sl false 1 (List.map D.str s1.Trace)], Z, .d (D.fn 177 []), Z, Z, Z, Z, Z, Z, Z, Z, Z, Z, Z, Z, Z, Z, Z, Z, Z, Z, Z, Z, Z, Z, Z, Z, Z, Z, Z, Z, Z, Z, Z, Z, Z, Z, Z, Z, Z, Z, Z, Z, Z, Z, Z, Z, Z, Z, Z, Z, Z, Z, Z, Z, Z, Z, Z, Z], []⟩
noncomputable abbrev zjD (s1 : TConsole) (k : List Fr) (t : Bool) (x : Option Res) : Prop := Pu (D.bool t) [] x
theorem zjE (s1 : TConsole) (k : List Fr) : Le (zjD s1 k) (zdd s1) (zgb s1 k) := by
 unfold zdd zgb zvs
 repeat' (try conv => arg 3; simp (maxSteps := 999999) only [sx, ty, ↓reduceIte, seval, *]); first
  | (refine Le.call (zfV _) fun _ _ _ hy => ?_; obtain ⟨_, rfl⟩ := hy)
  | (refine Le.call (zjy _) fun _ _ _ hy => ?_; obtain ⟨_, rfl⟩ := hy)
  | (refine Le.via (zjC _ _ _) fun _ _ _ hy => ?_; try dsimp only [zga] at hy; first | subst hy | obtain ⟨_, rfl⟩ := hy)
  | with_reducible refine Le.bool (fun _ => ?_) (fun _ => ?_)
  | ((with_reducible refine Le.ret ?_); first | exact rfl | exact Pu.mk)
theorem zlH (p0 : TConsole) : Le (fun r x => Pu (D.bool r) [] x) (zdA p0) (zab T 95 [D.agg [D.sl false 1 (List.map D.str p0.Input), D.int .i64 p0.At, D.sl false 1 (List.map D.str p0.Output), D.sl false 4 (List.map (TFile.e false) p0.Files), D.sl false 1 (List.map D.str p0.Trace)]] []) := by
 unfold zdA
 refine Le.enter (g := v95) rfl rfl rfl rfl ?_
 repeat' (try conv => arg 3; simp (maxSteps := 999999) only [sx, ty, ↓reduceIte, seval, *, v95, zBS]); first
  | exact zjE _ _
  | ((with_reducible refine Le.ret ?_); first | exact rfl | exact Pu.mk)
  | with_reducible refine Le.itq (fun _ => ?_) (fun _ => ?_)
noncomputable abbrev zcM (s1 : TScope) (s8 : List TBinding) (s9 : Int) (s3 : List TValue) (s10 : Int) (k : List Fr) : Option Res := go T (enF [.tmp 2] []) ztv (.lp ztw :: .bl 0 :: .sq (.clr [0,1,2,5,6,7,8,9,10,11,12,13,14,15,16,17,18,19]) :: k) ⟨[Z, .box [D.sl false 5 (List.map (TBinding.e false) s1.Vars), D.sl false 4 (List.map (TFunction.e false) s1.Functions), D.sl false 2 (List.map (TRecordType.e false) s1.Types)], Z, .d (D.sl true 4 (List.map (TValue.e false) s3)), Z, Z, Z, .ptr ⟨.slot 1, [], 0⟩, .d (D.sl false 5 (List.map (TBinding.e false) s8)), .d (D.int .i64 s9), .d (D.int .i64 s10), Z, Z, Z, Z, Z, Z, Z, Z, Z, Z], []⟩
noncomputable abbrev zcN (s1 : TScope) (s8 : List TBinding) (s9 : Int) (k : List Fr) (t : ((List TValue))) (x : Option Res) : Prop := x = bk T (enF [.tmp 2] []) k ⟨[Z, Z, Z, .d (D.sl true 4 (List.map (TValue.e false) t)), Z, Z, Z, Z, Z, Z, Z, Z, Z, Z, Z, Z, Z, Z, Z, Z, Z], []⟩
theorem zki (s1 : TScope) (s8 : List TBinding) (s9 : Int) : ∀ (s3 : List TValue) (s10 : Int) (k : List Fr), Le (zcN s1 s8 s9 k) (zfn s1 s8 s9 s3 s10) (zcM s1 s8 s9 s3 s10 k) := by
 intro s3 s10 k
 refine Le.cp (X := zcM s1 s8 s9 s3 s10) (Q := zcN s1 s8 s9) ?_ k
 refine zfn.partial_correctness s1 s8 s9 (motive := fun s3 s10 r => ∀ k : List Fr, zcN s1 s8 s9 k r (zcM s1 s8 s9 s3 s10 k)) ?_ s3 s10
 intro rec hrec s3 s10
 refine Le.pc ?_
 intro k
 unfold zcM ztv
 try conv => arg 3; simp (maxSteps := 999999) only [sx, ty, ↓reduceIte, seval, *, zua]
 refine Le.itq (fun h => ?_) (fun h => ?_)
 ·try conv => arg 3; simp (maxSteps := 999999) only [sx, ty, ↓reduceIte, seval, *, zua]
  refine Le.idx fun a12 h_1 h_2 h_3 => ?_
  try conv => arg 3; simp (maxSteps := 999999) only [sx, ty, ↓reduceIte, seval, *, zua]
  refine Le.app fun c18 h_4 h_5 => ?_
  replace h_4 : List.map (TValue.e false) s3 ++ [D.agg [D.int .i64 a12.Value.Kind, D.int .i64 a12.Value.Num, D.str a12.Value.Text, D.int .i64 a12.Value.Ref]] = List.map (TValue.e false) c18 := by rw [h_4, List.map_append] <;> rfl
  replace h_5 : s3.length + 1 ≤ most := h_5
  try conv => arg 3; simp (maxSteps := 999999) only [sx, ty, ↓reduceIte, seval, *, zua]
  exact fun r hr => hrec _ _ r hr k
 ·try conv => arg 3; simp (maxSteps := 999999) only [sx, ty, ↓reduceIte, seval, *, zua]
  ((with_reducible refine Le.ret ?_); first | exact rfl | exact Pu.mk)
theorem znd (p0 : TScope) : Le (fun r x => Pu (D.sl true 4 (List.map (TValue.e false) r)) [] x) (zex p0) (zab T 97 [D.agg [D.sl false 5 (List.map (TBinding.e false) p0.Vars), D.sl false 4 (List.map (TFunction.e false) p0.Functions), D.sl false 2 (List.map (TRecordType.e false) p0.Types)]] []) := by
 unfold zex
 refine Le.enter (g := v97) rfl rfl rfl rfl ?_
 repeat' (try conv => arg 3; simp (maxSteps := 999999) only [sx, ty, ↓reduceIte, seval, *, zua, v97, zBT]); first
  | (refine Le.via (zki _ _ _ _ _ _) fun _ _ _ hy => ?_; try dsimp only [zcN] at hy; first | subst hy | obtain ⟨_, rfl⟩ := hy)
  | ((with_reducible refine Le.ret ?_); first | exact rfl | exact Pu.mk)
theorem zne (p0 : TMemory) : Le (fun r x => Pu (D.bool r) [] x) (zde p0) (zab T 38 [D.agg [D.int .i64 p0.Heap.Next, D.sl false 10 (List.map (TObject.e false) p0.Heap.Objects), D.sl false 5 (List.map (TBinding.e false) p0.Scope.Vars), D.sl false 4 (List.map (TFunction.e false) p0.Scope.Functions), D.sl false 2 (List.map (TRecordType.e false) p0.Scope.Types), D.sl false 1 (List.map D.str p0.Console.Input), D.int .i64 p0.Console.At, D.sl false 1 (List.map D.str p0.Console.Output), D.sl false 4 (List.map (TFile.e false) p0.Console.Files), D.sl false 1 (List.map D.str p0.Console.Trace)]] []) := by
 unfold zde
 refine Le.enter (g := v38) rfl rfl rfl rfl ?_
 repeat' (try conv => arg 3; simp (maxSteps := 999999) only [sx, ty, ↓reduceIte, seval, *, v38, zBy]); first
  | (refine Le.dcall (zqj _) fun _ _ _ hy => ?_; obtain ⟨_, rfl⟩ := hy)
  | (refine Le.dcall (znz _) fun _ _ _ hy => ?_; obtain ⟨_, rfl⟩ := hy)
  | (refine Le.dcall (zlH _) fun _ _ _ hy => ?_; obtain ⟨_, rfl⟩ := hy)
  | (refine Le.dcall (znd _) fun _ _ _ hy => ?_; obtain ⟨_, rfl⟩ := hy)
  | (refine Le.dcall (zgB _ _) fun _ _ _ hy => ?_; obtain ⟨_, rfl⟩ := hy)
  | with_reducible refine Le.bool (fun _ => ?_) (fun _ => ?_)
  | ((with_reducible refine Le.ret ?_); first | exact rfl | exact Pu.mk)
theorem zge (xs : List TValue) (h : xs.length ≤ 2147483648) : zab T 203 [.sl false 4 (xs.map (TValue.e false))] [] = some (.sl true 4 (xs.map (TValue.e false)), [], []) := by
 cases xs with
 | nil =>
  rw [zag T (g := v203) rfl rfl rfl _ _ rfl]
  simp (maxSteps := 9999999) (disch := omega) only [vx, px, ty, ↓reduceIte, seval, fx, vxd, Nat.reduceBNe, most, ifT, ifF, v203, zvO]
 | cons x xs =>
  rw [List.length_cons] at h
  rw [zag T (g := v203) rfl rfl rfl _ _ rfl]
  simp (maxSteps := 9999999) (disch := omega) only [vx, px, ty, ↓reduceIte, seval, fx, vxd, Nat.reduceBNe, most, ifT, ifF, v203, zvO]
theorem zgf (p0 : List TValue) : Le (fun r x => Pu (D.sl true 4 (List.map (TValue.e false) r)) [] x) (zaZ p0) (zab T 203 [D.sl false 4 (List.map (TValue.e false) p0)] []) := by
 unfold zaZ
 refine Le.chk fun h => Le.ret ?_
 exact ⟨_, zge p0 h⟩
theorem zlb (p0 : TObject) : Le (fun r x => Pu (D.agg [D.int .i64 r.Id, D.int .i64 r.Kind, D.str r.Name, D.int .i64 r.Low, D.sl true 4 (List.map (TValue.e false) r.Keys), D.sl true 4 (List.map (TValue.e false) r.Vals), D.int .i64 r.Default.Kind, D.int .i64 r.Default.Num, D.str r.Default.Text, D.int .i64 r.Default.Ref]) [] x) (zfR p0) (zab T 188 [D.agg [D.int .i64 p0.Id, D.int .i64 p0.Kind, D.str p0.Name, D.int .i64 p0.Low, D.sl false 4 (List.map (TValue.e false) p0.Keys), D.sl false 4 (List.map (TValue.e false) p0.Vals), D.int .i64 p0.Default.Kind, D.int .i64 p0.Default.Num, D.str p0.Default.Text, D.int .i64 p0.Default.Ref]] []) := by
 unfold zfR
 refine Le.enter (g := v188) rfl rfl rfl rfl ?_
 repeat' (try conv => arg 3; simp (maxSteps := 999999) only [sx, ty, ↓reduceIte, seval, *, v188, zyD]); first
  | (refine Le.dcall (zgf _) fun _ _ _ hy => ?_; obtain ⟨_, rfl⟩ := hy)
  | ((with_reducible refine Le.ret ?_); first | exact rfl | exact Pu.mk)
noncomputable abbrev zcO (s1 : THeap) (s2 : THeap) (s10 : List TObject) (s11 : Int) (s3 : THeap) (s12 : Int) (k : List Fr) : Option Res := go T (enF [.cell 2 (.many 2)] []) ztx (.lp zty :: .bl 0 :: .sq (.clr [0,1,5,6,7,8,9,10,11,12,13,14,15,16,17,18,19,20,21,22,23]) :: k) ⟨[Z, .box [D.int .i64 s1.Next, D.sl false 10 (List.map (TObject.e false) s1.Objects)], .box [D.int .i64 s2.Next, D.sl true 10 (List.map (TObject.e true) s2.Objects)], .box [D.int .i64 s3.Next, D.sl true 10 (List.map (TObject.e true) s3.Objects)], Z, Z, Z, Z, Z, .ptr ⟨.slot 1, [], 1⟩, .d (D.sl false 10 (List.map (TObject.e false) s10)), .d (D.int .i64 s11), .d (D.int .i64 s12), Z, Z, Z, Z, Z, Z, Z, Z, Z, Z, Z, Z], []⟩
noncomputable abbrev zcP (s1 : THeap) (s2 : THeap) (s10 : List TObject) (s11 : Int) (k : List Fr) (t : THeap) (x : Option Res) : Prop := x = bk T (enF [.cell 2 (.many 2)] []) k ⟨[Z, Z, .box [D.int .i64 s2.Next, D.sl true 10 (List.map (TObject.e true) s2.Objects)], .box [D.int .i64 t.Next, D.sl true 10 (List.map (TObject.e true) t.Objects)], Z, Z, Z, Z, Z, Z, Z, Z, Z, Z, Z, Z, Z, Z, Z, Z, Z, Z, Z, Z, Z], []⟩
theorem zkj (s1 : THeap) (s2 : THeap) (s10 : List TObject) (s11 : Int) : ∀ (s3 : THeap) (s12 : Int) (k : List Fr), Le (zcP s1 s2 s10 s11 k) (zfo s1 s2 s10 s11 s3 s12) (zcO s1 s2 s10 s11 s3 s12 k) := by
 intro s3 s12 k
 refine Le.cp (X := zcO s1 s2 s10 s11 s3 s12) (Q := zcP s1 s2 s10 s11) ?_ k
 refine zfo.partial_correctness s1 s2 s10 s11 (motive := fun s3 s12 r => ∀ k : List Fr, zcP s1 s2 s10 s11 k r (zcO s1 s2 s10 s11 s3 s12 k)) ?_ s3 s12
 intro rec hrec s3 s12
 refine Le.pc ?_
 intro k
 unfold zcO ztx
 try conv => arg 3; simp (maxSteps := 999999) only [sx, ty, ↓reduceIte, seval, *, zrI]
 refine Le.itq (fun h => ?_) (fun h => ?_)
 ·try conv => arg 3; simp (maxSteps := 999999) only [sx, ty, ↓reduceIte, seval, *, zrI]
  refine Le.idx fun a14 h_1 h_2 h_3 => ?_
  try conv => arg 3; simp (maxSteps := 999999) only [sx, ty, ↓reduceIte, seval, *, zrI]
  refine Le.dcall (zlb a14) fun r19 h_4 _ hy => ?_
  obtain ⟨_, rfl⟩ := hy
  try conv => arg 3; simp (maxSteps := 999999) only [sx, ty, ↓reduceIte, seval, *, zrI]
  refine Le.app fun c21 h_5 h_6 => ?_
  replace h_5 : List.map (TObject.e true) s3.Objects ++ [D.agg [D.int .i64 r19.Id, D.int .i64 r19.Kind, D.str r19.Name, D.int .i64 r19.Low, D.sl true 4 (List.map (TValue.e false) r19.Keys), D.sl true 4 (List.map (TValue.e false) r19.Vals), D.int .i64 r19.Default.Kind, D.int .i64 r19.Default.Num, D.str r19.Default.Text, D.int .i64 r19.Default.Ref]] = List.map (TObject.e true) c21 := by rw [h_5, List.map_append] <;> rfl
  replace h_6 : s3.Objects.length + 1 ≤ most := h_6
  try conv => arg 3; simp (maxSteps := 999999) only [sx, ty, ↓reduceIte, seval, *, zrI]
  exact fun r hr => hrec _ _ r hr k
 ·try conv => arg 3; simp (maxSteps := 999999) only [sx, ty, ↓reduceIte, seval, *, zrI]
  ((with_reducible refine Le.ret ?_); first | exact rfl | exact Pu.mk)
theorem znf (p0 : THeap) : Le (fun r x => Pu (D.agg [D.int .i64 r.Next, D.sl true 10 (List.map (TObject.e true) r.Objects)]) [] x) (zdf p0) (zab T 99 [D.agg [D.int .i64 p0.Next, D.sl false 10 (List.map (TObject.e false) p0.Objects)]] []) := by
 unfold zdf
 refine Le.enter (g := v99) rfl rfl rfl rfl ?_
 repeat' (try conv => arg 3; simp (maxSteps := 999999) only [sx, ty, ↓reduceIte, seval, *, zrI, v99, zBV]); first
  | (refine Le.via (zkj _ _ _ _ _ _ _) fun _ _ _ hy => ?_; try dsimp only [zcP] at hy; first | subst hy | obtain ⟨_, rfl⟩ := hy)
  | ((with_reducible refine Le.ret ?_); first | exact rfl | exact Pu.mk)
theorem zfd (xs : List TBinding) (h : xs.length ≤ 2147483648) : zab T 136 [.sl false 5 (xs.map (TBinding.e false))] [] = some (.sl true 5 (xs.map (TBinding.e false)), [], []) := by
 cases xs with
 | nil =>
  rw [zag T (g := v136) rfl rfl rfl _ _ rfl]
  simp (maxSteps := 9999999) (disch := omega) only [vx, px, ty, ↓reduceIte, seval, fx, vxd, Nat.reduceBNe, most, ifT, ifF, v136, zvH]
 | cons x xs =>
  rw [List.length_cons] at h
  rw [zag T (g := v136) rfl rfl rfl _ _ rfl]
  simp (maxSteps := 9999999) (disch := omega) only [vx, px, ty, ↓reduceIte, seval, fx, vxd, Nat.reduceBNe, most, ifT, ifF, v136, zvH]
theorem zfe (p0 : List TBinding) : Le (fun r x => Pu (D.sl true 5 (List.map (TBinding.e false) r)) [] x) (zaG p0) (zab T 136 [D.sl false 5 (List.map (TBinding.e false) p0)] []) := by
 unfold zaG
 refine Le.chk fun h => Le.ret ?_
 exact ⟨_, zfd p0 h⟩
noncomputable abbrev zcr (s1 : TScope) (s2 : TScope) (s13 : List TFunction) (s14 : Int) (s3 : TScope) (s15 : Int) (k : List Fr) : Option Res := go T (enF [.cell 2 (.many 3)] []) zoq (.lp zor :: .bl 0 :: .sq (.clr [0,5,8,9,10,11,12,13,14,15,16,17,18,19,20,21,22,23,24,25,26,27,28,29,30,31,32,33]) :: k) ⟨[Z, .box [D.sl false 5 (List.map (TBinding.e false) s1.Vars), D.sl false 4 (List.map (TFunction.e false) s1.Functions), D.sl false 2 (List.map (TRecordType.e false) s1.Types)], .box [D.sl true 5 (List.map (TBinding.e false) s2.Vars), D.sl true 4 (List.map (TFunction.e true) s2.Functions), D.sl true 2 (List.map (TRecordType.e true) s2.Types)], .box [D.sl true 5 (List.map (TBinding.e false) s3.Vars), D.sl true 4 (List.map (TFunction.e true) s3.Functions), D.sl true 2 (List.map (TRecordType.e true) s3.Types)], Z, Z, Z, Z, Z, Z, Z, Z, .ptr ⟨.slot 1, [], 1⟩, .d (D.sl false 4 (List.map (TFunction.e false) s13)), .d (D.int .i64 s14), .d (D.int .i64 s15), Z, Z, Z, Z, Z, Z, Z, Z, Z, Z, Z, Z, Z, Z, Z, Z, Z, Z, Z, Z, Z, Z, Z, Z, Z, Z, Z, Z, Z, Z, Z, Z, Z, Z, Z, Z, Z], []⟩
noncomputable abbrev zcs (s1 : TScope) (s2 : TScope) (s13 : List TFunction) (s14 : Int) (k : List Fr) (t : TScope) (x : Option Res) : Prop := x = bk T (enF [.cell 2 (.many 3)] []) k ⟨[Z, .box [D.sl false 5 (List.map (TBinding.e false) s1.Vars), D.sl false 4 (List.map (TFunction.e false) s1.Functions), D.sl false 2 (List.map (TRecordType.e false) s1.Types)], .box [D.sl true 5 (List.map (TBinding.e false) s2.Vars), D.sl true 4 (List.map (TFunction.e true) s2.Functions), D.sl true 2 (List.map (TRecordType.e true) s2.Types)], .box [D.sl true 5 (List.map (TBinding.e false) t.Vars), D.sl true 4 (List.map (TFunction.e true) t.Functions), D.sl true 2 (List.map (TRecordType.e true) t.Types)], Z, Z, Z, Z, Z, Z, Z, Z, Z, Z, Z, Z, Z, Z, Z, Z, Z, Z, Z, Z, Z, Z, Z, Z, Z, Z, Z, Z, Z, Z, Z, Z, Z, Z, Z, Z, Z, Z, Z, Z, Z, Z, Z, Z, Z, Z, Z, Z, Z], []⟩
theorem zjF (s1 : TScope) (s2 : TScope) (s13 : List TFunction) (s14 : Int) : ∀ (s3 : TScope) (s15 : Int) (k : List Fr), Le (zcs s1 s2 s13 s14 k) (zch s1 s2 s13 s14 s3 s15) (zcr s1 s2 s13 s14 s3 s15 k) := by
 intro s3 s15 k
 refine Le.cp (X := zcr s1 s2 s13 s14 s3 s15) (Q := zcs s1 s2 s13 s14) ?_ k
 refine zch.partial_correctness s1 s2 s13 s14 (motive := fun s3 s15 r => ∀ k : List Fr, zcs s1 s2 s13 s14 k r (zcr s1 s2 s13 s14 s3 s15 k)) ?_ s3 s15
 intro rec hrec s3 s15
 refine Le.pc ?_
 intro k
 unfold zcr zoq
 try conv => arg 3; simp (maxSteps := 999999) only [sx, ty, ↓reduceIte, seval, *, zgi, zgj]
 refine Le.itq (fun h => ?_) (fun h => ?_)
 ·try conv => arg 3; simp (maxSteps := 999999) only [sx, ty, ↓reduceIte, seval, *, zgi, zgj]
  refine Le.idx fun a17 h_1 h_2 h_3 => ?_
  try conv => arg 3; simp (maxSteps := 999999) only [sx, ty, ↓reduceIte, seval, *, zgi, zgj]
  refine Le.dcall (zan a17.Params) fun r21 h_4 _ hy => ?_
  obtain ⟨_, rfl⟩ := hy
  try conv => arg 3; simp (maxSteps := 999999) only [sx, ty, ↓reduceIte, seval, *, zgi, zgj]
  refine Le.dcall (zan a17.Locals) fun r24 h_5 _ hy => ?_
  obtain ⟨_, rfl⟩ := hy
  try conv => arg 3; simp (maxSteps := 999999) only [sx, ty, ↓reduceIte, seval, *, zgi, zgj]
  refine Le.app fun c31 h_6 h_7 => ?_
  replace h_6 : List.map (TFunction.e true) s3.Functions ++ [D.agg [D.str a17.Name, D.sl true 1 (List.map D.str r21), D.sl true 1 (List.map D.str r24), D.str a17.Label]] = List.map (TFunction.e true) c31 := by rw [h_6, List.map_append] <;> rfl
  replace h_7 : s3.Functions.length + 1 ≤ most := h_7
  try conv => arg 3; simp (maxSteps := 999999) only [sx, ty, ↓reduceIte, seval, *, zgi, zgj]
  exact fun r hr => hrec _ _ r hr k
 ·try conv => arg 3; simp (maxSteps := 999999) only [sx, ty, ↓reduceIte, seval, *, zgi, zgj]
  ((with_reducible refine Le.ret ?_); first | exact rfl | exact Pu.mk)
noncomputable abbrev zct (s1 : TScope) (s2 : TScope) (s35 : List TRecordType) (s36 : Int) (s3 : TScope) (s37 : Int) (k : List Fr) : Option Res := go T (enF [.cell 2 (.many 3)] []) zos (.lp zot :: .bl 2 :: .sq (.clr [0,1,5,7,8,9,10,11,12,13,14,15,16,17,18,19,20,21,22,23,24,25,26,27,28,29,30,31,32,33,34,35,36,37,38,39,40,41,42,43,44,45,46,47,48,49,50,51]) :: k) ⟨[Z, .box [D.sl false 5 (List.map (TBinding.e false) s1.Vars), D.sl false 4 (List.map (TFunction.e false) s1.Functions), D.sl false 2 (List.map (TRecordType.e false) s1.Types)], .box [D.sl true 5 (List.map (TBinding.e false) s2.Vars), D.sl true 4 (List.map (TFunction.e true) s2.Functions), D.sl true 2 (List.map (TRecordType.e true) s2.Types)], .box [D.sl true 5 (List.map (TBinding.e false) s3.Vars), D.sl true 4 (List.map (TFunction.e true) s3.Functions), D.sl true 2 (List.map (TRecordType.e true) s3.Types)], Z, Z, Z, Z, Z, Z, Z, Z, Z, Z, Z, Z, Z, Z, Z, Z, Z, Z, Z, Z, Z, Z, Z, Z, Z, Z, Z, Z, Z, Z, .ptr ⟨.slot 1, [], 2⟩, .d (D.sl false 2 (List.map (TRecordType.e false) s35)), .d (D.int .i64 s36), .d (D.int .i64 s37), Z, Z, Z, Z, Z, Z, Z, Z, Z, Z, Z, Z, Z, Z, Z], []⟩
noncomputable abbrev zcu (s1 : TScope) (s2 : TScope) (s35 : List TRecordType) (s36 : Int) (k : List Fr) (t : TScope) (x : Option Res) : Prop := x = bk T (enF [.cell 2 (.many 3)] []) k ⟨[Z, Z, .box [D.sl true 5 (List.map (TBinding.e false) s2.Vars), D.sl true 4 (List.map (TFunction.e true) s2.Functions), D.sl true 2 (List.map (TRecordType.e true) s2.Types)], .box [D.sl true 5 (List.map (TBinding.e false) t.Vars), D.sl true 4 (List.map (TFunction.e true) t.Functions), D.sl true 2 (List.map (TRecordType.e true) t.Types)], Z, Z, Z, Z, Z, Z, Z, Z, Z, Z, Z, Z, Z, Z, Z, Z, Z, Z, Z, Z, Z, Z, Z, Z, Z, Z, Z, Z, Z, Z, Z, Z, Z, Z, Z, Z, Z, Z, Z, Z, Z, Z, Z, Z, Z, Z, Z, Z, Z], []⟩
theorem zjG (s1 : TScope) (s2 : TScope) (s35 : List TRecordType) (s36 : Int) : ∀ (s3 : TScope) (s37 : Int) (k : List Fr), Le (zcu s1 s2 s35 s36 k) (zbk s1 s2 s35 s36 s3 s37) (zct s1 s2 s35 s36 s3 s37 k) := by
 intro s3 s37 k
 refine Le.cp (X := zct s1 s2 s35 s36 s3 s37) (Q := zcu s1 s2 s35 s36) ?_ k
 refine zbk.partial_correctness s1 s2 s35 s36 (motive := fun s3 s37 r => ∀ k : List Fr, zcu s1 s2 s35 s36 k r (zct s1 s2 s35 s36 s3 s37 k)) ?_ s3 s37
 intro rec hrec s3 s37
 refine Le.pc ?_
 intro k
 unfold zct zos
 try conv => arg 3; simp (maxSteps := 999999) only [sx, ty, ↓reduceIte, seval, *, zgi, zgj]
 refine Le.itq (fun h => ?_) (fun h => ?_)
 ·try conv => arg 3; simp (maxSteps := 999999) only [sx, ty, ↓reduceIte, seval, *, zgi, zgj]
  refine Le.idx fun a39 h_1 h_2 h_3 => ?_
  try conv => arg 3; simp (maxSteps := 999999) only [sx, ty, ↓reduceIte, seval, *, zgi, zgj]
  refine Le.call (zan a39.Fields) fun r43 h_4 _ hy => ?_
  obtain ⟨_, rfl⟩ := hy
  try conv => arg 3; simp (maxSteps := 999999) only [sx, ty, ↓reduceIte, seval, *, zgi, zgj]
  refine Le.app fun c49 h_5 h_6 => ?_
  replace h_5 : List.map (TRecordType.e true) s3.Types ++ [D.agg [D.str a39.Name, D.sl true 1 (List.map D.str r43)]] = List.map (TRecordType.e true) c49 := by rw [h_5, List.map_append] <;> rfl
  replace h_6 : s3.Types.length + 1 ≤ most := h_6
  try conv => arg 3; simp (maxSteps := 999999) only [sx, ty, ↓reduceIte, seval, *, zgi, zgj]
  exact fun r hr => hrec _ _ r hr k
 ·try conv => arg 3; simp (maxSteps := 999999) only [sx, ty, ↓reduceIte, seval, *, zgi, zgj]
  ((with_reducible refine Le.ret ?_); first | exact rfl | exact Pu.mk)
theorem zlI (p0 : TScope) : Le (fun r x => Pu (D.agg [D.sl true 5 (List.map (TBinding.e false) r.Vars), D.sl true 4 (List.map (TFunction.e true) r.Functions), D.sl true 2 (List.map (TRecordType.e true) r.Types)]) [] x) (zcz p0) (zab T 100 [D.agg [D.sl false 5 (List.map (TBinding.e false) p0.Vars), D.sl false 4 (List.map (TFunction.e false) p0.Functions), D.sl false 2 (List.map (TRecordType.e false) p0.Types)]] []) := by
 unfold zcz
 refine Le.enter (g := v100) rfl rfl rfl rfl ?_
 repeat' (try conv => arg 3; simp (maxSteps := 999999) only [sx, ty, ↓reduceIte, seval, *, zgi, zgj, v100, zxu]); first
  | (refine Le.call (zfe _) fun _ _ _ hy => ?_; obtain ⟨_, rfl⟩ := hy)
  | (refine Le.via (zjF _ _ _ _ _ _ _) fun _ _ _ hy => ?_; try dsimp only [zcs] at hy; first | subst hy | obtain ⟨_, rfl⟩ := hy)
  | (refine Le.via (zjG _ _ _ _ _ _ _) fun _ _ _ hy => ?_; try dsimp only [zcu] at hy; first | subst hy | obtain ⟨_, rfl⟩ := hy)
  | ((with_reducible refine Le.ret ?_); first | exact rfl | exact Pu.mk)
noncomputable abbrev zbL (s1 : TConsole) (s2 : TConsole) (s19 : List TFile) (s20 : Int) (s3 : TConsole) (s21 : Int) (k : List Fr) : Option Res := go T (enF [.cell 2 (.many 5)] []) zou (.lp zov :: .bl 0 :: .sq (.clr [0,1,5,6,7,8,9,10,11,12,13,14,15,16,17,18,19,20,21,22,23,24,25,26,27,28,29,30,31,32,33,34,35]) :: k) ⟨[Z, .box [D.sl false 1 (List.map D.str s1.Input), D.int .i64 s1.At, D.sl false 1 (List.map D.str s1.Output), D.sl false 4 (List.map (TFile.e false) s1.Files), D.sl false 1 (List.map D.str s1.Trace)], .box [D.sl true 1 (List.map D.str s2.Input), D.int .i64 s2.At, D.sl true 1 (List.map D.str s2.Output), D.sl true 4 (List.map (TFile.e true) s2.Files), D.sl true 1 (List.map D.str s2.Trace)], .box [D.sl true 1 (List.map D.str s3.Input), D.int .i64 s3.At, D.sl true 1 (List.map D.str s3.Output), D.sl true 4 (List.map (TFile.e true) s3.Files), D.sl true 1 (List.map D.str s3.Trace)], Z, Z, Z, Z, Z, Z, Z, Z, Z, Z, Z, Z, Z, Z, .ptr ⟨.slot 1, [], 3⟩, .d (D.sl false 4 (List.map (TFile.e false) s19)), .d (D.int .i64 s20), .d (D.int .i64 s21), Z, Z, Z, Z, Z, Z, Z, Z, Z, Z, Z, Z, Z, Z, Z], []⟩
noncomputable abbrev zbM (s1 : TConsole) (s2 : TConsole) (s19 : List TFile) (s20 : Int) (k : List Fr) (t : TConsole) (x : Option Res) : Prop := x = bk T (enF [.cell 2 (.many 5)] []) k ⟨[Z, Z, .box [D.sl true 1 (List.map D.str s2.Input), D.int .i64 s2.At, D.sl true 1 (List.map D.str s2.Output), D.sl true 4 (List.map (TFile.e true) s2.Files), D.sl true 1 (List.map D.str s2.Trace)], .box [D.sl true 1 (List.map D.str t.Input), D.int .i64 t.At, D.sl true 1 (List.map D.str t.Output), D.sl true 4 (List.map (TFile.e true) t.Files), D.sl true 1 (List.map D.str t.Trace)], Z, Z, Z, Z, Z, Z, Z, Z, Z, Z, Z, Z, Z, Z, Z, Z, Z, Z, Z, Z, Z, Z, Z, Z, Z, Z, Z, Z, Z, Z, Z, Z, Z], []⟩
theorem zix (s1 : TConsole) (s2 : TConsole) (s19 : List TFile) (s20 : Int) : ∀ (s3 : TConsole) (s21 : Int) (k : List Fr), Le (zbM s1 s2 s19 s20 k) (zdQ s1 s2 s19 s20 s3 s21) (zbL s1 s2 s19 s20 s3 s21 k) := by
 intro s3 s21 k
 refine Le.cp (X := zbL s1 s2 s19 s20 s3 s21) (Q := zbM s1 s2 s19 s20) ?_ k
 refine zdQ.partial_correctness s1 s2 s19 s20 (motive := fun s3 s21 r => ∀ k : List Fr, zbM s1 s2 s19 s20 k r (zbL s1 s2 s19 s20 s3 s21 k)) ?_ s3 s21
 intro rec hrec s3 s21
 refine Le.pc ?_
 intro k
 unfold zbL zou
 try conv => arg 3; simp (maxSteps := 999999) only [sx, ty, ↓reduceIte, seval, *, zmp]
 refine Le.itq (fun h => ?_) (fun h => ?_)
 ·try conv => arg 3; simp (maxSteps := 999999) only [sx, ty, ↓reduceIte, seval, *, zmp]
  refine Le.idx fun a23 h_1 h_2 h_3 => ?_
  try conv => arg 3; simp (maxSteps := 999999) only [sx, ty, ↓reduceIte, seval, *, zmp]
  refine Le.call (zan a23.Lines) fun r27 h_4 _ hy => ?_
  obtain ⟨_, rfl⟩ := hy
  try conv => arg 3; simp (maxSteps := 999999) only [sx, ty, ↓reduceIte, seval, *, zmp]
  refine Le.app fun c33 h_5 h_6 => ?_
  replace h_5 : List.map (TFile.e true) s3.Files ++ [D.agg [D.str a23.Name, D.sl true 1 (List.map D.str r27), D.int .i64 a23.Mode, D.int .i64 a23.At]] = List.map (TFile.e true) c33 := by rw [h_5, List.map_append] <;> rfl
  replace h_6 : s3.Files.length + 1 ≤ most := h_6
  try conv => arg 3; simp (maxSteps := 999999) only [sx, ty, ↓reduceIte, seval, *, zmp]
  exact fun r hr => hrec _ _ r hr k
 ·try conv => arg 3; simp (maxSteps := 999999) only [sx, ty, ↓reduceIte, seval, *, zmp]
  ((with_reducible refine Le.ret ?_); first | exact rfl | exact Pu.mk)
theorem zkk (p0 : TConsole) : Le (fun r x => Pu (D.agg [D.sl true 1 (List.map D.str r.Input), D.int .i64 r.At, D.sl true 1 (List.map D.str r.Output), D.sl true 4 (List.map (TFile.e true) r.Files), D.sl true 1 (List.map D.str r.Trace)]) [] x) (zby p0) (zab T 101 [D.agg [D.sl false 1 (List.map D.str p0.Input), D.int .i64 p0.At, D.sl false 1 (List.map D.str p0.Output), D.sl false 4 (List.map (TFile.e false) p0.Files), D.sl false 1 (List.map D.str p0.Trace)]] []) := by
 unfold zby
 refine Le.enter (g := v101) rfl rfl rfl rfl ?_
 repeat' (try conv => arg 3; simp (maxSteps := 999999) only [sx, ty, ↓reduceIte, seval, *, zmp, v101, zxv]); first
  | (refine Le.dcall (zan _) fun _ _ _ hy => ?_; obtain ⟨_, rfl⟩ := hy)
  | (refine Le.via (zix _ _ _ _ _ _ _) fun _ _ _ hy => ?_; try dsimp only [zbM] at hy; first | subst hy | obtain ⟨_, rfl⟩ := hy)
  | ((with_reducible refine Le.ret ?_); first | exact rfl | exact Pu.mk)
theorem zlc (p0 : TMemory) : Le (fun r x => Pu (D.agg [D.int .i64 r.Heap.Next, D.sl true 10 (List.map (TObject.e true) r.Heap.Objects), D.sl true 5 (List.map (TBinding.e false) r.Scope.Vars), D.sl true 4 (List.map (TFunction.e true) r.Scope.Functions), D.sl true 2 (List.map (TRecordType.e true) r.Scope.Types), D.sl true 1 (List.map D.str r.Console.Input), D.int .i64 r.Console.At, D.sl true 1 (List.map D.str r.Console.Output), D.sl true 4 (List.map (TFile.e true) r.Console.Files), D.sl true 1 (List.map D.str r.Console.Trace)]) [] x) (zci p0) (zab T 39 [D.agg [D.int .i64 p0.Heap.Next, D.sl false 10 (List.map (TObject.e false) p0.Heap.Objects), D.sl false 5 (List.map (TBinding.e false) p0.Scope.Vars), D.sl false 4 (List.map (TFunction.e false) p0.Scope.Functions), D.sl false 2 (List.map (TRecordType.e false) p0.Scope.Types), D.sl false 1 (List.map D.str p0.Console.Input), D.int .i64 p0.Console.At, D.sl false 1 (List.map D.str p0.Console.Output), D.sl false 4 (List.map (TFile.e false) p0.Console.Files), D.sl false 1 (List.map D.str p0.Console.Trace)]] []) := by
 unfold zci
 refine Le.enter (g := v39) rfl rfl rfl rfl ?_
 repeat' (try conv => arg 3; simp (maxSteps := 999999) only [sx, ty, ↓reduceIte, seval, *, v39, zBz]); first
  | (refine Le.dcall (znf _) fun _ _ _ hy => ?_; obtain ⟨_, rfl⟩ := hy)
  | (refine Le.dcall (zlI _) fun _ _ _ hy => ?_; obtain ⟨_, rfl⟩ := hy)
  | (refine Le.dcall (zkk _) fun _ _ _ hy => ?_; obtain ⟨_, rfl⟩ := hy)
  | ((with_reducible refine Le.ret ?_); first | exact rfl | exact Pu.mk)
theorem zql (p0 : List ByteArray) : Le (fun r x => Pu (D.tup [D.agg [D.int .i64 r.1.Heap.Next, D.sl true 10 (List.map (TObject.e true) r.1.Heap.Objects), D.sl true 5 (List.map (TBinding.e false) r.1.Scope.Vars), D.sl true 4 (List.map (TFunction.e true) r.1.Scope.Functions), D.sl true 2 (List.map (TRecordType.e true) r.1.Scope.Types), D.sl true 1 (List.map D.str r.1.Console.Input), D.int .i64 r.1.Console.At, D.sl true 1 (List.map D.str r.1.Console.Output), D.sl true 4 (List.map (TFile.e true) r.1.Console.Files), D.sl true 1 (List.map D.str r.1.Console.Trace)], D.bool r.2]) [] x) (zhz p0) (zab T 11 [D.sl false 1 (List.map D.str p0)] []) := by
 unfold zhz
 refine Le.enter (g := v11) rfl rfl rfl rfl ?_
 repeat' (try conv => arg 3; simp (maxSteps := 999999) only [sx, ty, ↓reduceIte, seval, *, v11, zBs]); first
  | (refine Le.call (zne _) fun _ _ _ hy => ?_; obtain ⟨_, rfl⟩ := hy)
  | (refine Le.call (zlc _) fun _ _ _ hy => ?_; obtain ⟨_, rfl⟩ := hy)
  | with_reducible refine Le.bool (fun _ => ?_) (fun _ => ?_)
  | ((with_reducible refine Le.ret ?_); first | exact rfl | exact Pu.mk)
end Go.Vx.NmZ
