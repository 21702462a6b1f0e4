/-
  What the plain functions give, the program gives too.
-/
import Derived.Test.YthppbplieikhkaaGreatDoorShA
set_option linter.unusedVariables false
set_option linter.unusedSimpArgs false
namespace Go.Vx.DtZ
set_option linter.unusedVariables false
set_option linter.unusedSimpArgs false
set_option maxRecDepth 10000
set_option maxHeartbeats 2000000
theorem zkr (s p : ByteArray) : Le (fun r x => Pu (D.sl true 1 (List.map D.str r)) [] x) (zex s p) (zac T 145 [D.str s, D.str p] []) := by
 unfold zex
 intro r hr
 exact ⟨_, by rw [zfk (g := zlC) T rfl, znq hr]; rfl⟩
theorem zmE (p0 : ByteArray) : Le (fun r x => Pu (D.sl true 1 (List.map D.str r)) [] x) (zcB p0) (zac T 117 [D.str p0] []) := by
 unfold zcB
 refine Le.enter (g := v117) rfl rfl rfl rfl ?_
 repeat' (try conv => arg 3; simp (maxSteps := 999999) only [sx, ty, ↓reduceIte, seval, *, v117, zve]); first
  | (refine Le.call (zkr _ _) fun _ _ _ hy => ?_; obtain ⟨_, rfl⟩ := hy)
  | ((with_reducible refine Le.ret ?_); first | exact rfl | exact Pu.mk)
  | with_reducible refine Le.itq (fun _ => ?_) (fun _ => ?_)
noncomputable abbrev zeo (s0 : ByteArray) (s6 : ByteArray) (s12 : List ByteArray) (s13 : List ByteArray) (s14 : Bool) (k : List Fr) : Option Res := go T (enF [.tmp 2, .tmp 3, .tmp 4, .tmp 5] []) zsP k ⟨[.d (D.str s0), Z, Z, Z, Z, Z, .d (D.str s6), Z, Z, Z, Z, Z, .d (D.sl true 1 (List.map D.str s12)), .d (D.sl true 1 (List.map D.str s13)), .d (D.bool s14), Z, Z, Z, Z, Z, Z, Z, Z, Z, Z, Z, Z, Z, Z, Z, Z, Z, Z, Z, Z, Z, Z, Z, Z, Z, Z, Z, Z, Z, Z, Z, Z, Z, Z, Z, Z], []⟩
noncomputable abbrev zha (s0 : ByteArray) (s6 : ByteArray) (s12 : List ByteArray) (s13 : List ByteArray) (s14 : Bool) (k : List Fr) (t : ((ByteArray × (List ByteArray) × (List ByteArray) × Bool))) (x : Option Res) : Prop := Pu (D.tup [D.str t.1, D.sl true 1 (List.map D.str t.2.1), D.sl true 1 (List.map D.str t.2.2.1), D.bool t.2.2.2]) [] x
theorem zhb (s0 : ByteArray) (s6 : ByteArray) (s12 : List ByteArray) (s13 : List ByteArray) (s14 : Bool) (k : List Fr) : Le (zha s0 s6 s12 s13 s14 k) (zan s0 s6 s12 s13 s14) (zeo s0 s6 s12 s13 s14 k) := by
 unfold zan zeo zsP
 try conv => arg 3; simp (maxSteps := 999999) only [sx, ty, ↓reduceIte, seval, *]
 ((with_reducible refine Le.ret ?_); first | exact rfl | exact Pu.mk)
theorem ziQ (p0 : ByteArray) : Le (fun r x => Pu (D.tup [D.str r.1, D.sl true 1 (List.map D.str r.2.1), D.sl true 1 (List.map D.str r.2.2.1), D.bool r.2.2.2]) [] x) (zcC p0) (zac T 82 [D.str p0] []) := by
 unfold zcC
 refine Le.enter (g := v82) rfl rfl rfl rfl ?_
 repeat' (try conv => arg 3; simp (maxSteps := 999999) only [sx, ty, ↓reduceIte, seval, *, v82, zyE]); first
  | (refine Le.call (zmD _ _) fun _ _ _ hy => ?_; obtain ⟨_, rfl⟩ := hy)
  | (refine Le.call (zmE _) fun _ _ _ hy => ?_; obtain ⟨_, rfl⟩ := hy)
  | (refine Le.call (zeM _) fun _ _ _ hy => ?_; obtain ⟨_, rfl⟩ := hy)
  | (refine Le.call (zdT _) fun _ _ _ hy => ?_; obtain ⟨_, rfl⟩ := hy)
  | exact zhb _ _ _ _ _ _
  | with_reducible refine Le.bool (fun _ => ?_) (fun _ => ?_)
  | ((with_reducible refine Le.ret ?_); first | exact rfl | exact Pu.mk)
theorem zig (p0 : ByteArray) : Le (fun r x => Pu (D.bool r) [] x) (zcp p0) (zac T 153 [D.str p0] []) := by
 unfold zcp
 refine Le.enter (g := v153) rfl rfl rfl rfl ?_
 try conv => arg 3; simp (maxSteps := 999999) only [sx, ty, ↓reduceIte, seval, *, v153, zvs]
 ((with_reducible refine Le.ret ?_); first | exact rfl | exact Pu.mk)
theorem zhc (p0 : ByteArray) (p1 : ByteArray) : Le (fun r x => Pu (D.int .i64 r) [] x) (zbE p0 p1) (zac T 135 [D.str p0, D.str p1] []) := by
 unfold zbE
 refine Le.enter (g := v135) rfl rfl rfl rfl ?_
 repeat' (try conv => arg 3; simp (maxSteps := 999999) only [sx, ty, ↓reduceIte, seval, *, v135, zvk]); first
  | (refine Le.call (zig _) fun _ _ _ hy => ?_; obtain ⟨_, rfl⟩ := hy)
  | with_reducible refine Le.bool (fun _ => ?_) (fun _ => ?_)
  | ((with_reducible refine Le.ret ?_); first | exact rfl | exact Pu.mk)
  | with_reducible refine Le.itq (fun _ => ?_) (fun _ => ?_)
theorem zek (p0 : TRecordType) (p1 : ByteArray) : Le (fun r x => x = some (D.int .i64 r, [], [[D.fn 73 []]])) (zaW p0 p1) (zac T 137 [D.agg [D.str p0.Name, D.sl false 1 (List.map D.str p0.Fields)], D.str p1, D.ref 0 0] [[D.fn 73 []]]) := by
 unfold zaW
 refine Le.enter (g := v137) rfl rfl rfl rfl ?_
 repeat' (try conv => arg 3; simp (maxSteps := 999999) only [sx, ty, ↓reduceIte, seval, *, v137, zvn]); first
  | (refine Le.call (zfg _) fun _ _ _ hy => ?_; obtain ⟨_, rfl⟩ := hy)
  | (refine Le.call (zhc _ _) fun _ _ _ hy => ?_; obtain ⟨_, rfl⟩ := hy)
  | ((with_reducible refine Le.ret ?_); first | exact rfl | exact Pu.mk)
noncomputable abbrev zae (s0 : List TRecordType) (s1 : ByteArray) (s8 : Int) (s9 : Int) (s10 : Int) (k : List Fr) : Option Res := go T (enF [.tmp 6, .tmp 7] []) zmp (.lp zmq :: .bl 0 :: .sq (.clr [6,7,10,11,12,13,14,15,16,17,18,19,20,21,22,23,24,25,26,27,28,29,30,31,32,33,34]) :: k) ⟨[.d (D.sl false 2 (List.map (TRecordType.e false) s0)), .d (D.str s1), .d (D.fn 137 [D.ref 0 0]), Z, Z, Z, Z, Z, .d (D.int .i64 s8), .d (D.int .i64 s9), .d (D.int .i64 s10), Z, Z, Z, Z, Z, Z, Z, Z, Z, Z, Z, Z, Z, Z, Z, Z, Z, Z, Z, Z, Z, Z, Z, Z, Z, Z, Z, Z, Z, Z, Z, Z, Z, Z, Z, Z, Z, Z], [[D.fn 73 []]]⟩
noncomputable abbrev zaf (s0 : List TRecordType) (s1 : ByteArray) (s8 : Int) (k : List Fr) (t : Int) (x : Option Res) : Prop := x = bk T (enF [.tmp 6, .tmp 7] []) k ⟨[.d (D.sl false 2 (List.map (TRecordType.e false) s0)), .d (D.str s1), .d (D.fn 137 [D.ref 0 0]), Z, Z, Z, Z, Z, .d (D.int .i64 s8), .d (D.int .i64 t), Z, Z, Z, Z, Z, Z, Z, Z, Z, Z, Z, Z, Z, Z, Z, Z, Z, Z, Z, Z, Z, Z, Z, Z, Z, Z, Z, Z, Z, Z, Z, Z, Z, Z, Z, Z, Z, Z, Z], [[D.fn 73 []]]⟩
theorem zbg (s0 : List TRecordType) (s1 : ByteArray) (s8 : Int) : ∀ (s9 : Int) (s10 : Int) (k : List Fr), Le (zaf s0 s1 s8 k) (zab s0 s1 s8 s9 s10) (zae s0 s1 s8 s9 s10 k) := by
 intro s9 s10 k
 refine Le.cp (X := zae s0 s1 s8 s9 s10) (Q := zaf s0 s1 s8) ?_ k
 refine zab.partial_correctness s0 s1 s8 (motive := fun s9 s10 r => ∀ k : List Fr, zaf s0 s1 s8 k r (zae s0 s1 s8 s9 s10 k)) ?_ s9 s10
 intro rec hrec s9 s10
 refine Le.pc ?_
 intro k
 unfold zae zmp
 repeat' (try conv => arg 3; simp (maxSteps := 999999) only [sx, ty, ↓reduceIte, seval, *, zvl]); first
  | (refine Le.call (zek _ _) fun _ _ _ hy => ?_; subst hy)
  | with_reducible refine Le.idx fun _ _ _ _ => ?_
  | ((with_reducible refine Le.ret ?_); first | exact rfl | exact Pu.mk)
  | with_reducible refine Le.itq (fun _ => ?_) (fun _ => ?_)
  | exact fun r hr => hrec _ _ r hr k
theorem zbp (p0 : List TRecordType) (p1 : ByteArray) : Le (fun r x => x = some (D.tup [D.int .i64 r.1, D.bool r.2], [], [[D.fn 73 []]])) (zai p0 p1) (zac T 136 [D.sl false 2 (List.map (TRecordType.e false) p0), D.str p1, D.fn 137 [D.ref 0 0]] [[D.fn 73 []]]) := by
 unfold zai
 refine Le.enter (g := v136) rfl rfl rfl rfl ?_
 repeat' (try conv => arg 3; simp (maxSteps := 999999) only [sx, ty, ↓reduceIte, seval, *, zvl, v136, zvm]); first
  | (refine Le.via (zbg _ _ _ _ _ _) fun _ _ _ hy => ?_; try dsimp only [zaf] at hy; first | subst hy | obtain ⟨_, rfl⟩ := hy)
  | (refine Le.call (zek _ _) fun _ _ _ hy => ?_; subst hy)
  | with_reducible refine Le.idx fun _ _ _ _ => ?_
  | ((with_reducible refine Le.ret ?_); first | exact rfl | exact Pu.mk)
  | with_reducible refine Le.itq (fun _ => ?_) (fun _ => ?_)
theorem zhD (p0 : List TRecordType) (p1 : ByteArray) : Le (fun r x => Pu (D.tup [D.int .i64 r.1, D.bool r.2]) [] x) (zcc p0 p1) (zac T 104 [D.sl false 2 (List.map (TRecordType.e false) p0), D.str p1, D.fn 73 []] []) := by
 unfold zcc
 refine Le.enter (g := v104) rfl rfl rfl rfl ?_
 repeat' (try conv => arg 3; simp (maxSteps := 999999) only [sx, ty, ↓reduceIte, seval, *, v104, zuO]); first
  | (refine Le.call (zbp _ _) fun _ _ _ hy => ?_; subst hy)
  | ((with_reducible refine Le.ret ?_); first | exact rfl | exact Pu.mk)
theorem zcV (xs : List TRecordType) (h : xs.length ≤ 2147483648) : zac T 118 [.sl true 2 (xs.map (TRecordType.e true))] [] = some (.sl true 2 (xs.map (TRecordType.e true)), [], []) := by
 cases xs with
 | nil =>
  rw [zag T (g := v118) rfl rfl rfl _ _ rfl]
  simp (maxSteps := 9999999) (disch := omega) only [vx, px, ty, ↓reduceIte, seval, fx, vxd, Nat.reduceBNe, most, ifT, ifF, v118, zsV]
 | cons x xs =>
  rw [List.length_cons] at h
  have hX : D.hasX ((TRecordType.e true) x) = true := rfl
  rw [zag T (g := v118) rfl rfl rfl _ _ rfl]
  simp (maxSteps := 9999999) (disch := omega) only [vx, px, ty, ↓reduceIte, seval, fx, vxd, Nat.reduceBNe, most, ifT, ifF, v118, zsV, hX, Bool.true_or]
theorem zcW (p0 : List TRecordType) : Le (fun r x => Pu (D.sl true 2 (List.map (TRecordType.e true) r)) [] x) (zaw p0) (zac T 118 [D.sl true 2 (List.map (TRecordType.e true) p0)] []) := by
 unfold zaw
 refine Le.chk fun h => Le.ret ?_
 exact ⟨_, zcV p0 h⟩
theorem zdb (a : List TRecordType) (i : Int) (y : TRecordType) : Le (fun r x => Pu (D.sl true 2 (List.map (TRecordType.e true) r)) [] x) (zaA a i y) (zac T 119 [D.sl true 2 (List.map (TRecordType.e true) a), D.int .i64 i, D.sl true 2 [D.agg [D.str y.Name, D.sl true 1 (List.map D.str y.Fields)]]] []) := by
 unfold zaA
 refine Le.chk fun h => Le.ret ?_
 exact ⟨_, by rw [zfk (g := zio 2) T rfl, zmd (TRecordType.e true) 2 a i y (v := D.agg [D.str y.Name, D.sl true 1 (List.map D.str y.Fields)]) rfl h]; rfl⟩
theorem zgb (p0 : List TRecordType) (p1 : TRecordType) : Le (fun r x => Pu (D.sl true 2 (List.map (TRecordType.e true) r)) [] x) (zbf p0 p1) (zac T 83 [D.sl true 2 (List.map (TRecordType.e true) p0), D.agg [D.str p1.Name, D.sl true 1 (List.map D.str p1.Fields)], D.fn 73 []] []) := by
 unfold zbf
 refine Le.enter (g := v83) rfl rfl rfl rfl ?_
 try conv => arg 3; simp (maxSteps := 999999) only [sx, ty, ↓reduceIte, seval, *, v83, zmf]
 refine Le.call (zfg p1) fun r14 h _ hy => ?_
 obtain ⟨_, rfl⟩ := hy
 try conv => arg 3; simp (maxSteps := 999999) only [sx, ty, ↓reduceIte, seval, *, v83, zmf]
 refine Le.call (zhD p0 r14) fun r16 h_1 _ hy => ?_
 obtain ⟨_, rfl⟩ := hy
 try conv => arg 3; simp (maxSteps := 999999) only [sx, ty, ↓reduceIte, seval, *, v83, zmf]
 refine Le.call (zcW p0) fun r20 h_2 _ hy => ?_
 obtain ⟨_, rfl⟩ := hy
 try conv => arg 3; simp (maxSteps := 999999) only [sx, ty, ↓reduceIte, seval, *, v83, zmf]
 refine Le.bool (fun h_3 => ?_) (fun h_3 => ?_)
 ·try conv => arg 3; simp (maxSteps := 999999) only [sx, ty, ↓reduceIte, seval, *, v83, zmf]
  refine Le.idx fun a25 h_4 h_5 h_6 => ?_
  try conv => arg 3; simp (maxSteps := 999999) only [sx, ty, ↓reduceIte, seval, *, v83, zmf]
  have f : List.set (List.map (TRecordType.e true) r20) r16.1.toNat (D.agg [D.str p1.Name, D.sl true 1 (List.map D.str p1.Fields)]) = List.map (TRecordType.e true) (setN r20 r16.1.toNat p1) := zng _ _ _ _ rfl
  try conv => arg 3; simp (maxSteps := 999999) only [sx, ty, ↓reduceIte, seval, *, v83, zmf]
  ((with_reducible refine Le.ret ?_); first | exact rfl | exact Pu.mk)
 ·repeat' (try conv => arg 3; simp (maxSteps := 999999) only [sx, ty, ↓reduceIte, seval, *, v83, zmf]); first
   | (refine Le.call (zdb _ _ _) fun _ _ _ hy => ?_; obtain ⟨_, rfl⟩ := hy)
   | ((with_reducible refine Le.ret ?_); first | exact rfl | exact Pu.mk)
noncomputable abbrev zdM (s1 : ByteArray) (s9 : TRecordType) (g0 : List TBinding) (g0_1 : List TFunction) (g0_2 : List TRecordType) (k : List Fr) : Option Res := go T (enF [.tmp 4] []) zsI k ⟨[.d (D.ref 0 0), .d (D.str s1), Z, Z, Z, Z, Z, Z, Z, .box [D.str s9.Name, D.sl true 1 (List.map D.str s9.Fields)], Z, Z, Z, Z, Z, Z, Z, Z, Z, Z, Z, Z, Z, Z, Z, Z, Z, Z, Z, Z, Z, Z, Z, Z, Z, Z, Z, Z, Z, Z, Z, Z, Z, Z, Z, Z], [[D.sl true 5 (List.map (TBinding.e false) g0), D.sl true 4 (List.map (TFunction.e true) g0_1), D.sl true 2 (List.map (TRecordType.e true) g0_2)]]⟩
noncomputable abbrev zgc (s1 : ByteArray) (s9 : TRecordType) (g0 : List TBinding) (g0_1 : List TFunction) (g0_2 : List TRecordType) (k : List Fr) (t : (((Int × Nat) ⊕ (Int × (List TRecordType))))) (x : Option Res) : Prop := match t with | .inl r => x = some (D.int .i64 r.1, [], [[D.sl true 5 (List.map (TBinding.e false) g0), D.sl true 4 (List.map (TFunction.e true) g0_1), D.gho r.2]]) | .inr r => x = some (D.int .i64 r.1, [], [[D.sl true 5 (List.map (TBinding.e false) g0), D.sl true 4 (List.map (TFunction.e true) g0_1), D.sl true 2 (List.map (TRecordType.e true) r.2)]])
theorem zgd (s1 : ByteArray) (s9 : TRecordType) (g0 : List TBinding) (g0_1 : List TFunction) (g0_2 : List TRecordType) (k : List Fr) : Le (zgc s1 s9 g0 g0_1 g0_2 k) (zbF s1 s9 g0 g0_1 g0_2) (zdM s1 s9 g0 g0_1 g0_2 k) := by
 unfold zbF zdM zsI
 repeat' (try conv => arg 3; simp (maxSteps := 999999) only [sx, ty, ↓reduceIte, seval, *]); first
  | (refine Le.dcall (zgb _ _) fun _ _ _ hy => ?_; obtain ⟨_, rfl⟩ := hy)
  | ((with_reducible refine Le.ret ?_); first | exact rfl | exact Pu.mk)
  | with_reducible refine Le.itq (fun _ => ?_) (fun _ => ?_)
theorem zhd (p1 : ByteArray) (g0 : List TBinding) (g0_1 : List TFunction) (g0_2 : List TRecordType) : Le (fun r x => match r with | .inl r => x = some (D.int .i64 r.1, [], [[D.sl true 5 (List.map (TBinding.e false) g0), D.sl true 4 (List.map (TFunction.e true) g0_1), D.gho r.2]]) | .inr r => x = some (D.int .i64 r.1, [], [[D.sl true 5 (List.map (TBinding.e false) g0), D.sl true 4 (List.map (TFunction.e true) g0_1), D.sl true 2 (List.map (TRecordType.e true) r.2)]])) (zbG p1 g0 g0_1 g0_2) (zac T 32 [D.ref 0 0, D.str p1] [[D.sl true 5 (List.map (TBinding.e false) g0), D.sl true 4 (List.map (TFunction.e true) g0_1), D.sl true 2 (List.map (TRecordType.e true) g0_2)]]) := by
 unfold zbG
 refine Le.enter (g := v32) rfl rfl rfl rfl ?_
 repeat' (try conv => arg 3; simp (maxSteps := 999999) only [sx, ty, ↓reduceIte, seval, *, v32, zxL]); first
  | (refine Le.call (ziQ _) fun _ _ _ hy => ?_; obtain ⟨_, rfl⟩ := hy)
  | (refine Le.call (zdP _) fun _ _ _ hy => ?_; obtain ⟨_, rfl⟩ := hy)
  | exact zgd _ _ _ _ _ _
  | with_reducible refine Le.bool (fun _ => ?_) (fun _ => ?_)
  | ((with_reducible refine Le.ret ?_); first | exact rfl | exact Pu.mk)
  | with_reducible refine Le.itq (fun _ => ?_) (fun _ => ?_)
theorem zlh (p0 : TScope) (p1 : ByteArray) : Le (fun r x => match r with | .inl r => Pu (D.tup [D.agg [D.sl true 5 (List.map (TBinding.e false) r.1), D.sl true 4 (List.map (TFunction.e true) r.2.1), D.gho r.2.2.1], D.int .i64 r.2.2.2]) [] x | .inr r => Pu (D.tup [D.agg [D.sl true 5 (List.map (TBinding.e false) r.1.Vars), D.sl true 4 (List.map (TFunction.e true) r.1.Functions), D.sl true 2 (List.map (TRecordType.e true) r.1.Types)], D.int .i64 r.2]) [] x) (zeg p0 p1) (zac T 9 [D.agg [D.sl false 5 (List.map (TBinding.e false) p0.Vars), D.sl false 4 (List.map (TFunction.e false) p0.Functions), D.sl false 2 (List.map (TRecordType.e false) p0.Types)], D.str p1] []) := by
 unfold zeg
 refine Le.enter (g := v9) rfl rfl rfl rfl ?_
 repeat' (try conv => arg 3; simp (maxSteps := 999999) only [sx, ty, ↓reduceIte, seval, *, v9, v9_b]); first
  | (refine Le.call (zlg _) fun _ _ _ hy => ?_; obtain ⟨_, rfl⟩ := hy)
  | (refine Le.call (zji _) fun _ _ _ hy => ?_; obtain ⟨_, rfl⟩ := hy)
  | (refine Le.call (zhd _ _ _ _) fun t _ _ hy => ?_; rcases t with t | t <;> (dsimp only at hy; first | subst hy | obtain ⟨_, rfl⟩ := hy))
  | with_reducible refine Le.bool (fun _ => ?_) (fun _ => ?_)
  | ((with_reducible refine Le.ret ?_); first | exact rfl | exact Pu.mk)
  | with_reducible refine Le.itq (fun _ => ?_) (fun _ => ?_)
end Go.Vx.DtZ
