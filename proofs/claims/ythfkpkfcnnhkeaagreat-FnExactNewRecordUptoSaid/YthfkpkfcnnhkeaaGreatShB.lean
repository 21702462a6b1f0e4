/-
  What the plain functions give, the program gives too.
-/
import Derived.Test.YthfkpkfcnnhkeaaGreatShA
set_option linter.unusedVariables false
set_option linter.unusedSimpArgs false
namespace Go.Vx.NrZ
set_option linter.unusedVariables false
set_option linter.unusedSimpArgs false
set_option maxRecDepth 10000
set_option maxHeartbeats 2000000
noncomputable abbrev x_i_ValidObject_j1 (s1 : TObject) (s3 : Bool) (k : List Fr) : Option Res := go T (enF [.tmp 2] []) v252_j1 k ⟨[Z, .box [D.int .i64 s1.Id, D.int .i64 s1.Kind, D.str s1.Name, D.int .i64 s1.Low, D.sl false 4 (List.map (TValue.e false) s1.Keys), D.sl false 4 (List.map (TValue.e false) s1.Vals), D.int .i64 s1.Default.Kind, D.int .i64 s1.Default.Num, D.str s1.Default.Text, D.int .i64 s1.Default.Ref], Z, .d (D.bool s3), Z, Z, Z, Z, Z, Z, Z, Z, Z, Z, Z, Z, Z, Z, Z, Z, Z, Z, Z, Z, Z, Z, Z, Z, Z, Z, Z, Z, Z, Z, Z, Z, Z, Z, Z, Z, Z, Z, Z, Z, Z, Z, Z, Z, Z, Z, Z, Z, Z, Z, Z, Z, Z, Z, Z, Z, Z, Z, Z, Z, Z, Z, Z, Z, Z, Z, Z, Z, Z, Z, Z, Z, Z, Z, Z, Z, Z, Z, Z, Z, Z, Z, Z, Z, Z, Z, Z, Z, Z, Z, Z, Z, Z, Z, Z, Z, Z, Z, Z, Z, Z, Z, Z, Z, Z, Z, Z, Z, Z, Z, Z, Z, Z, Z, Z, Z, Z, Z, Z, Z, Z, Z], []⟩
noncomputable abbrev q_i_ValidObject_j1 (s1 : TObject) (s3 : Bool) (k : List Fr) (t : Bool) (x : Option Res) : Prop := Pu (D.bool t) [] x
theorem p_i_ValidObject_j1 (s1 : TObject) (s3 : Bool) (k : List Fr) : Le (q_i_ValidObject_j1 s1 s3 k) (i_ValidObject_j1 s1 s3) (x_i_ValidObject_j1 s1 s3 k) := by
  unfold i_ValidObject_j1 x_i_ValidObject_j1 v252_j1
  repeat' (try conv => arg 3; simp (maxSteps := 999999) only [sx, ty, ↓reduceIte, reduceCtorEq, Nat.reduceAdd, Nat.reduceSub, Nat.reduceLeDiff, Nat.reduceEqDiff, Nat.reduceLT, Nat.reduceMul, Nat.reduceBNe, List.reduceReplicate, Int.reduceLE, Int.reduceLT, Int.reduceEq, Int.reduceToNat, Int.reduceNeg, *]); first
    | (refine Le.call (g_i_ValidValue _) fun _ _ _ hy => ?_; obtain ⟨_, rfl⟩ := hy)
    | with_reducible refine Le.bool (fun _ => ?_) (fun _ => ?_)
    | ((with_reducible refine Le.ret ?_); first | exact rfl | exact Pu.mk)
    | with_reducible refine Le.itq (fun _ => ?_) (fun _ => ?_)
noncomputable abbrev x_i_ValidObject_j2 (s1 : TObject) (s5 : Bool) (k : List Fr) : Option Res := go T (enF [.tmp 2] []) v252_j2 k ⟨[Z, .box [D.int .i64 s1.Id, D.int .i64 s1.Kind, D.str s1.Name, D.int .i64 s1.Low, D.sl false 4 (List.map (TValue.e false) s1.Keys), D.sl false 4 (List.map (TValue.e false) s1.Vals), D.int .i64 s1.Default.Kind, D.int .i64 s1.Default.Num, D.str s1.Default.Text, D.int .i64 s1.Default.Ref], Z, Z, Z, .d (D.bool s5), Z, Z, Z, Z, Z, Z, Z, Z, Z, Z, Z, Z, Z, Z, Z, Z, Z, Z, Z, Z, Z, Z, Z, Z, Z, Z, Z, Z, Z, Z, Z, Z, Z, Z, Z, Z, Z, Z, Z, Z, Z, Z, Z, Z, Z, Z, Z, Z, Z, Z, Z, Z, Z, Z, Z, Z, Z, Z, Z, Z, Z, Z, Z, Z, Z, Z, Z, Z, Z, Z, Z, Z, Z, Z, Z, Z, Z, Z, Z, Z, Z, Z, Z, Z, Z, Z, Z, Z, Z, Z, Z, Z, Z, Z, Z, Z, Z, Z, Z, Z, Z, Z, Z, Z, Z, Z, Z, Z, Z, Z, Z, Z, Z, Z, Z, Z, Z, Z, Z, Z], []⟩
noncomputable abbrev q_i_ValidObject_j2 (s1 : TObject) (s5 : Bool) (k : List Fr) (t : Bool) (x : Option Res) : Prop := Pu (D.bool t) [] x
theorem p_i_ValidObject_j2 (s1 : TObject) (s5 : Bool) (k : List Fr) : Le (q_i_ValidObject_j2 s1 s5 k) (i_ValidObject_j2 s1 s5) (x_i_ValidObject_j2 s1 s5 k) := by
  unfold i_ValidObject_j2 x_i_ValidObject_j2 v252_j2
  repeat' (try conv => arg 3; simp (maxSteps := 999999) only [sx, ty, ↓reduceIte, reduceCtorEq, Nat.reduceAdd, Nat.reduceSub, Nat.reduceLeDiff, Nat.reduceEqDiff, Nat.reduceLT, Nat.reduceMul, Nat.reduceBNe, List.reduceReplicate, Int.reduceLE, Int.reduceLT, Int.reduceEq, Int.reduceToNat, Int.reduceNeg, *]); first
    | (refine Le.call (g_i_IsName _) fun _ _ _ hy => ?_; obtain ⟨_, rfl⟩ := hy)
    | with_reducible refine Le.bool (fun _ => ?_) (fun _ => ?_)
    | ((with_reducible refine Le.ret ?_); first | exact rfl | exact Pu.mk)
    | with_reducible refine Le.itq (fun _ => ?_) (fun _ => ?_)
noncomputable abbrev x_i_ValidObject_j3 (s1 : TObject) (k : List Fr) : Option Res := go T (enF [.tmp 2] []) v252_j3 k ⟨[Z, .box [D.int .i64 s1.Id, D.int .i64 s1.Kind, D.str s1.Name, D.int .i64 s1.Low, D.sl false 4 (List.map (TValue.e false) s1.Keys), D.sl false 4 (List.map (TValue.e false) s1.Vals), D.int .i64 s1.Default.Kind, D.int .i64 s1.Default.Num, D.str s1.Default.Text, D.int .i64 s1.Default.Ref], Z, Z, Z, Z, Z, Z, Z, Z, Z, Z, Z, Z, Z, Z, Z, Z, Z, Z, Z, Z, Z, Z, Z, Z, Z, Z, Z, Z, Z, Z, Z, Z, Z, Z, Z, Z, Z, Z, Z, Z, Z, Z, Z, Z, Z, Z, Z, Z, Z, Z, Z, Z, Z, Z, Z, Z, Z, Z, Z, Z, Z, Z, Z, Z, Z, Z, Z, Z, Z, Z, Z, Z, Z, Z, Z, Z, Z, Z, Z, Z, Z, Z, Z, Z, Z, Z, Z, Z, Z, Z, Z, Z, Z, Z, Z, Z, Z, Z, Z, Z, Z, Z, Z, Z, Z, Z, Z, Z, Z, Z, Z, Z, Z, Z, Z, Z, Z, Z, Z, Z, Z, Z, Z, Z], []⟩
noncomputable abbrev q_i_ValidObject_j3 (s1 : TObject) (k : List Fr) (t : Bool) (x : Option Res) : Prop := Pu (D.bool t) [] x
theorem p_i_ValidObject_j3 (s1 : TObject) (k : List Fr) : Le (q_i_ValidObject_j3 s1 k) (i_ValidObject_j3 s1) (x_i_ValidObject_j3 s1 k) := by
  unfold i_ValidObject_j3 x_i_ValidObject_j3 v252_j3
  repeat' (try conv => arg 3; simp (maxSteps := 999999) only [sx, ty, ↓reduceIte, reduceCtorEq, Nat.reduceAdd, Nat.reduceSub, Nat.reduceLeDiff, Nat.reduceEqDiff, Nat.reduceLT, Nat.reduceMul, Nat.reduceBNe, List.reduceReplicate, Int.reduceLE, Int.reduceLT, Int.reduceEq, Int.reduceToNat, Int.reduceNeg, *]); first
    | (refine Le.call (g_i_within _ _ _) fun _ _ _ hy => ?_; obtain ⟨_, rfl⟩ := hy)
    | (refine Le.call (g_i_areAll_Value _) fun _ _ _ hy => ?_; obtain ⟨_, rfl⟩ := hy)
    | (refine Le.call (g_i_areDifferent _) fun _ _ _ hy => ?_; obtain ⟨_, rfl⟩ := hy)
    | (refine Le.via (p_i_ValidObject_j1 _ _ _) fun _ _ _ hy => ?_; try dsimp only [q_i_ValidObject_j1] at hy; first | subst hy | obtain ⟨_, rfl⟩ := hy)
    | (refine Le.call (g_i_areAll_Value_1 _) fun _ _ _ hy => ?_; obtain ⟨_, rfl⟩ := hy)
    | (refine Le.via (p_i_ValidObject_j2 _ _ _) fun _ _ _ hy => ?_; try dsimp only [q_i_ValidObject_j2] at hy; first | subst hy | obtain ⟨_, rfl⟩ := hy)
    | with_reducible refine Le.bool (fun _ => ?_) (fun _ => ?_)
    | ((with_reducible refine Le.ret ?_); first | exact rfl | exact Pu.mk)
    | with_reducible refine Le.itq (fun _ => ?_) (fun _ => ?_)
theorem g_i_ValidObject (p0 : TObject) : Le (fun r x => Pu (D.bool r) [] x) (i_ValidObject p0) (vcall T 252 [D.agg [D.int .i64 p0.Id, D.int .i64 p0.Kind, D.str p0.Name, D.int .i64 p0.Low, D.sl false 4 (List.map (TValue.e false) p0.Keys), D.sl false 4 (List.map (TValue.e false) p0.Vals), D.int .i64 p0.Default.Kind, D.int .i64 p0.Default.Num, D.str p0.Default.Text, D.int .i64 p0.Default.Ref]] []) := by
  unfold i_ValidObject
  refine Le.enter (g := v252) rfl rfl rfl rfl ?_
  repeat' (try conv => arg 3; simp (maxSteps := 999999) only [sx, ty, ↓reduceIte, reduceCtorEq, Nat.reduceAdd, Nat.reduceSub, Nat.reduceLeDiff, Nat.reduceEqDiff, Nat.reduceLT, Nat.reduceMul, Nat.reduceBNe, List.reduceReplicate, Int.reduceLE, Int.reduceLT, Int.reduceEq, Int.reduceToNat, Int.reduceNeg, *, v252, v252_b]); first
    | (refine Le.call (g_i_isObjectId _) fun _ _ _ hy => ?_; obtain ⟨_, rfl⟩ := hy)
    | (refine Le.call (g_i_areAll_Value _) fun _ _ _ hy => ?_; obtain ⟨_, rfl⟩ := hy)
    | exact p_i_ValidObject_j3 _ _
    | with_reducible refine Le.bool (fun _ => ?_) (fun _ => ?_)
    | ((with_reducible refine Le.ret ?_); first | exact rfl | exact Pu.mk)
    | with_reducible refine Le.itq (fun _ => ?_) (fun _ => ?_)
noncomputable abbrev x_i_areAll_Object_l1 (s0 : List TObject) (s7 : List TObject) (s8 : Int) (s9 : Int) (k : List Fr) : Option Res := go T (enF [.tmp 4] []) v251_m1 (.lp v251_l1 :: .bl 0 :: .sq (.clr [4,6,7,8,9,10,11,12,13,14,15,16,17]) :: k) ⟨[.d (D.sl false 10 (List.map (TObject.e false) s0)), .d (D.fn 252 []), Z, Z, Z, Z, Z, .d (D.sl false 10 (List.map (TObject.e false) s7)), .d (D.int .i64 s8), .d (D.int .i64 s9), Z, Z, Z, Z, Z, Z, Z, Z], []⟩
noncomputable abbrev q_i_areAll_Object_l1 (s0 : List TObject) (s7 : List TObject) (s8 : Int) (k : List Fr) (t : (Unit ⊕ Bool)) (x : Option Res) : Prop := match t with | .inl t => x = bk T (enF [.tmp 4] []) k ⟨[.d (D.sl false 10 (List.map (TObject.e false) s0)), .d (D.fn 252 []), Z, Z, Z, Z, Z, Z, Z, Z, Z, Z, Z, Z, Z, Z, Z, Z], []⟩ | .inr t => Pu (D.bool t) [] x
theorem p_i_areAll_Object_l1 (s0 : List TObject) (s7 : List TObject) (s8 : Int) : ∀ (s9 : Int) (k : List Fr), Le (q_i_areAll_Object_l1 s0 s7 s8 k) (i_areAll_Object_l1 s0 s7 s8 s9) (x_i_areAll_Object_l1 s0 s7 s8 s9 k) := by
  intro s9 k
  refine Le.cp (X := x_i_areAll_Object_l1 s0 s7 s8 s9) (Q := q_i_areAll_Object_l1 s0 s7 s8) ?_ k
  refine i_areAll_Object_l1.partial_correctness s0 s7 s8 (motive := fun s9 r => ∀ k : List Fr, q_i_areAll_Object_l1 s0 s7 s8 k r (x_i_areAll_Object_l1 s0 s7 s8 s9 k)) ?_ s9
  intro rec hrec s9
  refine Le.pc ?_
  intro k
  unfold x_i_areAll_Object_l1 v251_m1
  repeat' (try conv => arg 3; simp (maxSteps := 999999) only [sx, ty, ↓reduceIte, reduceCtorEq, Nat.reduceAdd, Nat.reduceSub, Nat.reduceLeDiff, Nat.reduceEqDiff, Nat.reduceLT, Nat.reduceMul, Nat.reduceBNe, List.reduceReplicate, Int.reduceLE, Int.reduceLT, Int.reduceEq, Int.reduceToNat, Int.reduceNeg, *, w251_1]); first
    | (refine Le.call (g_i_ValidObject _) fun _ _ _ hy => ?_; obtain ⟨_, rfl⟩ := hy)
    | with_reducible refine Le.idx fun _ _ _ _ => ?_
    | with_reducible refine Le.bool (fun _ => ?_) (fun _ => ?_)
    | ((with_reducible refine Le.ret ?_); first | exact rfl | exact Pu.mk)
    | with_reducible refine Le.itq (fun _ => ?_) (fun _ => ?_)
    | exact fun r hr => hrec _ r hr k
theorem g_i_areAll_Object (p0 : List TObject) : Le (fun r x => Pu (D.bool r) [] x) (i_areAll_Object p0) (vcall T 251 [D.sl false 10 (List.map (TObject.e false) p0), D.fn 252 []] []) := by
  unfold i_areAll_Object
  refine Le.enter (g := v251) rfl rfl rfl rfl ?_
  repeat' (try conv => arg 3; simp (maxSteps := 999999) only [sx, ty, ↓reduceIte, reduceCtorEq, Nat.reduceAdd, Nat.reduceSub, Nat.reduceLeDiff, Nat.reduceEqDiff, Nat.reduceLT, Nat.reduceMul, Nat.reduceBNe, List.reduceReplicate, Int.reduceLE, Int.reduceLT, Int.reduceEq, Int.reduceToNat, Int.reduceNeg, *, w251_1, v251, v251_b]); first
    | (refine Le.via (p_i_areAll_Object_l1 _ _ _ _ _) fun t _ _ hy => ?_; rcases t with t | t <;> (try dsimp only [q_i_areAll_Object_l1] at hy; first | subst hy | obtain ⟨_, rfl⟩ := hy))
    | ((with_reducible refine Le.ret ?_); first | exact rfl | exact Pu.mk)
theorem c_slices_Concat_Value_Value_g0 (sto : List (List D)) : vcall T 293 [.nils 4, .int .i64 0] sto = some (.nils 4, [], sto) := by
  rw [vcall_go T (g := v293) rfl rfl rfl _ _ rfl]
  simp (maxSteps := 9999999) (disch := omega) only [vx, px, ty, ↓reduceIte, Bool.false_eq_true, reduceCtorEq, Nat.reduceAdd, Nat.reduceSub, Nat.reduceLeDiff, Nat.reduceEqDiff, Nat.reduceLT, Nat.reduceMul, List.reduceReplicate, and_true, true_and, and_false, false_and, and_self, or_true, true_or, or_false, false_or, not_true_eq_false, not_false_eq_true, ne_eq, vxd, Nat.reduceBNe, most, ifT, ifF, v293, v293_b, Int.reduceToNat, Int.toNat_zero, getAt.eq_3]
theorem c_slices_Concat_Value_Value_gp (n : Int) (sto : List (List D)) (h : 0 < n) (h2 : n ≤ 2147483648) : vcall T 293 [.nils 4, .int .i64 n] sto = some (.sl true 4 [], [], sto) := by
  rw [vcall_go T (g := v293) rfl rfl rfl _ _ rfl]
  simp (maxSteps := 9999999) (disch := omega) only [vx, px, ty, ↓reduceIte, Bool.false_eq_true, reduceCtorEq, Nat.reduceAdd, Nat.reduceSub, Nat.reduceLeDiff, Nat.reduceEqDiff, Nat.reduceLT, Nat.reduceMul, List.reduceReplicate, and_true, true_and, and_false, false_and, and_self, or_true, true_or, or_false, false_or, not_true_eq_false, not_false_eq_true, ne_eq, vxd, Nat.reduceBNe, most, ifT, ifF, v293, v293_b, Int.reduceToNat, Int.toNat_zero, getAt.eq_3, zerosD_len, Int.sub_zero]
theorem c_slices_Concat_Value_Value (a b : List TValue) (sto : List (List D)) (h : a.length + b.length ≤ 2147483648) : vcall T 279 [.sl false 1 [.sl false 4 (a.map (TValue.e false)), .sl false 4 (b.map (TValue.e false))]] sto = some (.sl true 4 ((a ++ b).map (TValue.e false)), [], sto) := by
  by_cases h0 : a.length + b.length = 0
  · obtain rfl : a = [] := List.length_eq_zero_iff.1 (by omega)
    obtain rfl : b = [] := List.length_eq_zero_iff.1 (by omega)
    have e0 : ((0 : Nat) : Int) + ((0 : Nat) : Int) = 0 := rfl
    rw [vcall_go T (g := v279) rfl rfl rfl _ _ rfl]
    simp (maxSteps := 9999999) (disch := omega) only [vx, px, ty, ↓reduceIte, Bool.false_eq_true, reduceCtorEq, Nat.reduceAdd, Nat.reduceSub, Nat.reduceLeDiff, Nat.reduceEqDiff, Nat.reduceLT, Nat.reduceMul, List.reduceReplicate, and_true, true_and, and_false, false_and, and_self, or_true, true_or, or_false, false_or, not_true_eq_false, not_false_eq_true, ne_eq, vxd, Nat.reduceBNe, most, ifT, ifF, v279, v279_b, w279_1, v279_m1, w279_2, v279_m2, List.length_map, c_slices_Concat_Value_Value_g0, Int.reduceToNat, Int.toNat_zero, getAt.eq_3, Int.add_zero, Int.zero_add, Int.reduceAdd, e0]
  · rw [List.map_append]
    have e1 := fun sto => c_slices_Concat_Value_Value_gp ((a.length : Int) + (b.length : Int)) sto (by omega) (by omega)
    rw [vcall_go T (g := v279) rfl rfl rfl _ _ rfl]
    simp (maxSteps := 9999999) (disch := omega) only [vx, px, ty, ↓reduceIte, Bool.false_eq_true, reduceCtorEq, Nat.reduceAdd, Nat.reduceSub, Nat.reduceLeDiff, Nat.reduceEqDiff, Nat.reduceLT, Nat.reduceMul, List.reduceReplicate, and_true, true_and, and_false, false_and, and_self, or_true, true_or, or_false, false_or, not_true_eq_false, not_false_eq_true, ne_eq, vxd, Nat.reduceBNe, most, ifT, ifF, v279, v279_b, w279_1, v279_m1, w279_2, v279_m2, List.length_map, e1, Int.reduceToNat, Int.reduceAdd, Int.zero_add, Int.toNat_zero, getAt.eq_3]
theorem g_slices_Concat_Value_Value (a b : List TValue) : Le (fun r x => Pu (D.sl true 4 (List.map (TValue.e false) r)) [] x) (slices_Concat_Value_Value a b) (vcall T 279 [D.sl false 1 [D.sl false 4 (List.map (TValue.e false) a), D.sl false 4 (List.map (TValue.e false) b)]] []) := by
  unfold slices_Concat_Value_Value
  refine Le.chk fun h => Le.ret ?_
  exact ⟨_, c_slices_Concat_Value_Value a b [] h⟩
theorem g_i_Object_values (p0 : TObject) : Le (fun r x => Pu (D.sl true 4 (List.map (TValue.e false) r)) [] x) (i_Object_values p0) (vcall T 254 [D.agg [D.int .i64 p0.Id, D.int .i64 p0.Kind, D.str p0.Name, D.int .i64 p0.Low, D.sl false 4 (List.map (TValue.e false) p0.Keys), D.sl false 4 (List.map (TValue.e false) p0.Vals), D.int .i64 p0.Default.Kind, D.int .i64 p0.Default.Num, D.str p0.Default.Text, D.int .i64 p0.Default.Ref]] []) := by
  unfold i_Object_values
  refine Le.enter (g := v254) rfl rfl rfl rfl ?_
  try conv => arg 3; simp (maxSteps := 999999) only [sx, ty, ↓reduceIte, reduceCtorEq, Nat.reduceAdd, Nat.reduceSub, Nat.reduceLeDiff, Nat.reduceEqDiff, Nat.reduceLT, Nat.reduceMul, Nat.reduceBNe, List.reduceReplicate, Int.reduceLE, Int.reduceLT, Int.reduceEq, Int.reduceToNat, Int.reduceNeg, *, v254, v254_b]
  refine Le.call (g_slices_Concat_Value_Value p0.Keys p0.Vals) fun r9 h _ hy => ?_
  obtain ⟨_, rfl⟩ := hy
  try conv => arg 3; simp (maxSteps := 999999) only [sx, ty, ↓reduceIte, reduceCtorEq, Nat.reduceAdd, Nat.reduceSub, Nat.reduceLeDiff, Nat.reduceEqDiff, Nat.reduceLT, Nat.reduceMul, Nat.reduceBNe, List.reduceReplicate, Int.reduceLE, Int.reduceLT, Int.reduceEq, Int.reduceToNat, Int.reduceNeg, *, v254, v254_b]
  refine Le.itq (fun h_1 => ?_) (fun h_1 => ?_)
  · try conv => arg 3; simp (maxSteps := 999999) only [sx, ty, ↓reduceIte, reduceCtorEq, Nat.reduceAdd, Nat.reduceSub, Nat.reduceLeDiff, Nat.reduceEqDiff, Nat.reduceLT, Nat.reduceMul, Nat.reduceBNe, List.reduceReplicate, Int.reduceLE, Int.reduceLT, Int.reduceEq, Int.reduceToNat, Int.reduceNeg, *, v254, v254_b]
    refine Le.app fun c17 h_2 h_3 => ?_
    replace h_2 : List.map (TValue.e false) r9 ++ [D.agg [D.int .i64 p0.Default.Kind, D.int .i64 p0.Default.Num, D.str p0.Default.Text, D.int .i64 p0.Default.Ref]] = List.map (TValue.e false) c17 := by rw [h_2, List.map_append] <;> rfl
    replace h_3 : r9.length + 1 ≤ most := h_3
    try conv => arg 3; simp (maxSteps := 999999) only [sx, ty, ↓reduceIte, reduceCtorEq, Nat.reduceAdd, Nat.reduceSub, Nat.reduceLeDiff, Nat.reduceEqDiff, Nat.reduceLT, Nat.reduceMul, Nat.reduceBNe, List.reduceReplicate, Int.reduceLE, Int.reduceLT, Int.reduceEq, Int.reduceToNat, Int.reduceNeg, *, v254, v254_b]
    ((with_reducible refine Le.ret ?_); first | exact rfl | exact Pu.mk)
  · try conv => arg 3; simp (maxSteps := 999999) only [sx, ty, ↓reduceIte, reduceCtorEq, Nat.reduceAdd, Nat.reduceSub, Nat.reduceLeDiff, Nat.reduceEqDiff, Nat.reduceLT, Nat.reduceMul, Nat.reduceBNe, List.reduceReplicate, Int.reduceLE, Int.reduceLT, Int.reduceEq, Int.reduceToNat, Int.reduceNeg, *, v254, v254_b]
    ((with_reducible refine Le.ret ?_); first | exact rfl | exact Pu.mk)
theorem g_i_refers (p0 : Int) : Le (fun r x => Pu (D.bool r) [] x) (i_refers p0) (vcall T 255 [D.int .i64 p0] []) := by
  unfold i_refers
  refine Le.enter (g := v255) rfl rfl rfl rfl ?_
  repeat' (try conv => arg 3; simp (maxSteps := 999999) only [sx, ty, ↓reduceIte, reduceCtorEq, Nat.reduceAdd, Nat.reduceSub, Nat.reduceLeDiff, Nat.reduceEqDiff, Nat.reduceLT, Nat.reduceMul, Nat.reduceBNe, List.reduceReplicate, Int.reduceLE, Int.reduceLT, Int.reduceEq, Int.reduceToNat, Int.reduceNeg, *, v255, v255_b]); first
    | (refine Le.call (g_i_within _ _ _) fun _ _ _ hy => ?_; obtain ⟨_, rfl⟩ := hy)
    | ((with_reducible refine Le.ret ?_); first | exact rfl | exact Pu.mk)
theorem g_cmp_isNaN_int64 (p0 : Int) : Le (fun r x => Pu (D.bool r) [] x) (cmp_isNaN_int64 p0) (vcall T 294 [D.int .i64 p0] []) := by
  unfold cmp_isNaN_int64
  refine Le.enter (g := v294) rfl rfl rfl rfl ?_
  try conv => arg 3; simp (maxSteps := 999999) only [sx, ty, ↓reduceIte, reduceCtorEq, Nat.reduceAdd, Nat.reduceSub, Nat.reduceLeDiff, Nat.reduceEqDiff, Nat.reduceLT, Nat.reduceMul, Nat.reduceBNe, List.reduceReplicate, Int.reduceLE, Int.reduceLT, Int.reduceEq, Int.reduceToNat, Int.reduceNeg, *, v294, v294_b]
  ((with_reducible refine Le.ret ?_); first | exact rfl | exact Pu.mk)
theorem g_cmp_Compare_int64 (p0 : Int) (p1 : Int) : Le (fun r x => Pu (D.int .i64 r) [] x) (cmp_Compare_int64 p0 p1) (vcall T 282 [D.int .i64 p0, D.int .i64 p1] []) := by
  unfold cmp_Compare_int64
  refine Le.enter (g := v282) rfl rfl rfl rfl ?_
  repeat' (try conv => arg 3; simp (maxSteps := 999999) only [sx, ty, ↓reduceIte, reduceCtorEq, Nat.reduceAdd, Nat.reduceSub, Nat.reduceLeDiff, Nat.reduceEqDiff, Nat.reduceLT, Nat.reduceMul, Nat.reduceBNe, List.reduceReplicate, Int.reduceLE, Int.reduceLT, Int.reduceEq, Int.reduceToNat, Int.reduceNeg, *, v282, v282_b]); first
    | (refine Le.call (g_cmp_isNaN_int64 _) fun _ _ _ hy => ?_; obtain ⟨_, rfl⟩ := hy)
    | with_reducible refine Le.bool (fun _ => ?_) (fun _ => ?_)
    | ((with_reducible refine Le.ret ?_); first | exact rfl | exact Pu.mk)
    | with_reducible refine Le.itq (fun _ => ?_) (fun _ => ?_)
theorem g_i_Heap_find_1 (p0 : TObject) (p1 : Int) : Le (fun r x => Pu (D.int .i64 r) [] x) (i_Heap_find_1 p0 p1) (vcall T 281 [D.agg [D.int .i64 p0.Id, D.int .i64 p0.Kind, D.str p0.Name, D.int .i64 p0.Low, D.sl false 4 (List.map (TValue.e false) p0.Keys), D.sl false 4 (List.map (TValue.e false) p0.Vals), D.int .i64 p0.Default.Kind, D.int .i64 p0.Default.Num, D.str p0.Default.Text, D.int .i64 p0.Default.Ref], D.int .i64 p1] []) := by
  unfold i_Heap_find_1
  refine Le.enter (g := v281) rfl rfl rfl rfl ?_
  repeat' (try conv => arg 3; simp (maxSteps := 999999) only [sx, ty, ↓reduceIte, reduceCtorEq, Nat.reduceAdd, Nat.reduceSub, Nat.reduceLeDiff, Nat.reduceEqDiff, Nat.reduceLT, Nat.reduceMul, Nat.reduceBNe, List.reduceReplicate, Int.reduceLE, Int.reduceLT, Int.reduceEq, Int.reduceToNat, Int.reduceNeg, *, v281, v281_b]); first
    | (refine Le.call (g_cmp_Compare_int64 _ _) fun _ _ _ hy => ?_; obtain ⟨_, rfl⟩ := hy)
    | ((with_reducible refine Le.ret ?_); first | exact rfl | exact Pu.mk)
noncomputable abbrev x_slices_BinarySearchFunc_Object_Object_int64_l1 (s0 : List TObject) (s1 : Int) (s8 : Int) (s9 : Int) (s10 : Int) (k : List Fr) : Option Res := go T (enF [.tmp 6, .tmp 7] []) v280_m1 (.lp v280_l1 :: .bl 0 :: .sq (.clr [6,7,10,11,12,13,14,15,16,17,18,19,20,21,22,23,24,25,26,27,28,29,30,31,32,33,34]) :: k) ⟨[.d (D.sl false 10 (List.map (TObject.e false) s0)), .d (D.int .i64 s1), .d (D.fn 281 []), Z, Z, Z, Z, Z, .d (D.int .i64 s8), .d (D.int .i64 s9), .d (D.int .i64 s10), Z, Z, Z, Z, Z, Z, Z, Z, Z, Z, Z, Z, Z, Z, Z, Z, Z, Z, Z, Z, Z, Z, Z, Z, Z, Z, Z, Z, Z, Z, Z, Z, Z, Z, Z, Z, Z, Z], []⟩
noncomputable abbrev q_slices_BinarySearchFunc_Object_Object_int64_l1 (s0 : List TObject) (s1 : Int) (s8 : Int) (k : List Fr) (t : Int) (x : Option Res) : Prop := x = bk T (enF [.tmp 6, .tmp 7] []) k ⟨[.d (D.sl false 10 (List.map (TObject.e false) s0)), .d (D.int .i64 s1), .d (D.fn 281 []), Z, Z, Z, Z, Z, .d (D.int .i64 s8), .d (D.int .i64 t), Z, Z, Z, Z, Z, Z, Z, Z, Z, Z, Z, Z, Z, Z, Z, Z, Z, Z, Z, Z, Z, Z, Z, Z, Z, Z, Z, Z, Z, Z, Z, Z, Z, Z, Z, Z, Z, Z, Z], []⟩
theorem p_slices_BinarySearchFunc_Object_Object_int64_l1 (s0 : List TObject) (s1 : Int) (s8 : Int) : ∀ (s9 : Int) (s10 : Int) (k : List Fr), Le (q_slices_BinarySearchFunc_Object_Object_int64_l1 s0 s1 s8 k) (slices_BinarySearchFunc_Object_Object_int64_l1 s0 s1 s8 s9 s10) (x_slices_BinarySearchFunc_Object_Object_int64_l1 s0 s1 s8 s9 s10 k) := by
  intro s9 s10 k
  refine Le.cp (X := x_slices_BinarySearchFunc_Object_Object_int64_l1 s0 s1 s8 s9 s10) (Q := q_slices_BinarySearchFunc_Object_Object_int64_l1 s0 s1 s8) ?_ k
  refine slices_BinarySearchFunc_Object_Object_int64_l1.partial_correctness s0 s1 s8 (motive := fun s9 s10 r => ∀ k : List Fr, q_slices_BinarySearchFunc_Object_Object_int64_l1 s0 s1 s8 k r (x_slices_BinarySearchFunc_Object_Object_int64_l1 s0 s1 s8 s9 s10 k)) ?_ s9 s10
  intro rec hrec s9 s10
  refine Le.pc ?_
  intro k
  unfold x_slices_BinarySearchFunc_Object_Object_int64_l1 v280_m1
  repeat' (try conv => arg 3; simp (maxSteps := 999999) only [sx, ty, ↓reduceIte, reduceCtorEq, Nat.reduceAdd, Nat.reduceSub, Nat.reduceLeDiff, Nat.reduceEqDiff, Nat.reduceLT, Nat.reduceMul, Nat.reduceBNe, List.reduceReplicate, Int.reduceLE, Int.reduceLT, Int.reduceEq, Int.reduceToNat, Int.reduceNeg, *, w280_1]); first
    | (refine Le.call (g_i_Heap_find_1 _ _) fun _ _ _ hy => ?_; obtain ⟨_, rfl⟩ := hy)
    | with_reducible refine Le.idx fun _ _ _ _ => ?_
    | ((with_reducible refine Le.ret ?_); first | exact rfl | exact Pu.mk)
    | with_reducible refine Le.itq (fun _ => ?_) (fun _ => ?_)
    | exact fun r hr => hrec _ _ r hr k
theorem g_slices_BinarySearchFunc_Object_Object_int64 (p0 : List TObject) (p1 : Int) : Le (fun r x => Pu (D.tup [D.int .i64 r.1, D.bool r.2]) [] x) (slices_BinarySearchFunc_Object_Object_int64 p0 p1) (vcall T 280 [D.sl false 10 (List.map (TObject.e false) p0), D.int .i64 p1, D.fn 281 []] []) := by
  unfold slices_BinarySearchFunc_Object_Object_int64
  refine Le.enter (g := v280) rfl rfl rfl rfl ?_
  repeat' (try conv => arg 3; simp (maxSteps := 999999) only [sx, ty, ↓reduceIte, reduceCtorEq, Nat.reduceAdd, Nat.reduceSub, Nat.reduceLeDiff, Nat.reduceEqDiff, Nat.reduceLT, Nat.reduceMul, Nat.reduceBNe, List.reduceReplicate, Int.reduceLE, Int.reduceLT, Int.reduceEq, Int.reduceToNat, Int.reduceNeg, *, w280_1, v280, v280_b]); first
    | (refine Le.via (p_slices_BinarySearchFunc_Object_Object_int64_l1 _ _ _ _ _ _) fun _ _ _ hy => ?_; try dsimp only [q_slices_BinarySearchFunc_Object_Object_int64_l1] at hy; first | subst hy | obtain ⟨_, rfl⟩ := hy)
    | (refine Le.call (g_i_Heap_find_1 _ _) fun _ _ _ hy => ?_; obtain ⟨_, rfl⟩ := hy)
    | with_reducible refine Le.idx fun _ _ _ _ => ?_
    | ((with_reducible refine Le.ret ?_); first | exact rfl | exact Pu.mk)
    | with_reducible refine Le.itq (fun _ => ?_) (fun _ => ?_)
theorem g_i_Heap_find (p0 : THeap) (p1 : Int) : Le (fun r x => Pu (D.int .i64 r) [] x) (i_Heap_find p0 p1) (vcall T 256 [D.agg [D.int .i64 p0.Next, D.sl false 10 (List.map (TObject.e false) p0.Objects)], D.int .i64 p1] []) := by
  unfold i_Heap_find
  refine Le.enter (g := v256) rfl rfl rfl rfl ?_
  repeat' (try conv => arg 3; simp (maxSteps := 999999) only [sx, ty, ↓reduceIte, reduceCtorEq, Nat.reduceAdd, Nat.reduceSub, Nat.reduceLeDiff, Nat.reduceEqDiff, Nat.reduceLT, Nat.reduceMul, Nat.reduceBNe, List.reduceReplicate, Int.reduceLE, Int.reduceLT, Int.reduceEq, Int.reduceToNat, Int.reduceNeg, *, v256, v256_b]); first
    | (refine Le.call (g_slices_BinarySearchFunc_Object_Object_int64 _ _) fun _ _ _ hy => ?_; obtain ⟨_, rfl⟩ := hy)
    | with_reducible refine Le.bool (fun _ => ?_) (fun _ => ?_)
    | ((with_reducible refine Le.ret ?_); first | exact rfl | exact Pu.mk)
theorem g_i_objectKind (p0 : Int) : Le (fun r x => Pu (D.int .i64 r) [] x) (i_objectKind p0) (vcall T 257 [D.int .i64 p0] []) := by
  unfold i_objectKind
  refine Le.enter (g := v257) rfl rfl rfl rfl ?_
  try conv => arg 3; simp (maxSteps := 999999) only [sx, ty, ↓reduceIte, reduceCtorEq, Nat.reduceAdd, Nat.reduceSub, Nat.reduceLeDiff, Nat.reduceEqDiff, Nat.reduceLT, Nat.reduceMul, Nat.reduceBNe, List.reduceReplicate, Int.reduceLE, Int.reduceLT, Int.reduceEq, Int.reduceToNat, Int.reduceNeg, *, v257, v257_b]
  ((with_reducible refine Le.ret ?_); first | exact rfl | exact Pu.mk)
noncomputable abbrev x_i_Heap_fits_j1 (s2 : THeap) (s3 : TValue) (k : List Fr) : Option Res := go T (enF [.tmp 4] []) v223_j1 k ⟨[Z, Z, .box [D.int .i64 s2.Next, D.sl false 10 (List.map (TObject.e false) s2.Objects)], .box [D.int .i64 s3.Kind, D.int .i64 s3.Num, D.str s3.Text, D.int .i64 s3.Ref], Z, Z, Z, Z, Z, Z, Z, Z, Z, Z, Z, Z, Z, Z, Z, Z, Z, Z, Z, Z, Z, Z, Z, Z, Z, Z, Z, Z, Z, Z, Z], []⟩
noncomputable abbrev q_i_Heap_fits_j1 (s2 : THeap) (s3 : TValue) (k : List Fr) (t : Bool) (x : Option Res) : Prop := Pu (D.bool t) [] x
theorem p_i_Heap_fits_j1 (s2 : THeap) (s3 : TValue) (k : List Fr) : Le (q_i_Heap_fits_j1 s2 s3 k) (i_Heap_fits_j1 s2 s3) (x_i_Heap_fits_j1 s2 s3 k) := by
  unfold i_Heap_fits_j1 x_i_Heap_fits_j1 v223_j1
  repeat' (try conv => arg 3; simp (maxSteps := 999999) only [sx, ty, ↓reduceIte, reduceCtorEq, Nat.reduceAdd, Nat.reduceSub, Nat.reduceLeDiff, Nat.reduceEqDiff, Nat.reduceLT, Nat.reduceMul, Nat.reduceBNe, List.reduceReplicate, Int.reduceLE, Int.reduceLT, Int.reduceEq, Int.reduceToNat, Int.reduceNeg, *]); first
    | (refine Le.call (g_i_Heap_find _ _) fun _ _ _ hy => ?_; obtain ⟨_, rfl⟩ := hy)
    | (refine Le.dcall (g_i_objectKind _) fun _ _ _ hy => ?_; obtain ⟨_, rfl⟩ := hy)
    | with_reducible refine Le.idx fun _ _ _ _ => ?_
    | ((with_reducible refine Le.ret ?_); first | exact rfl | exact Pu.mk)
    | with_reducible refine Le.itq (fun _ => ?_) (fun _ => ?_)
theorem g_i_Heap_fits (p0 : THeap) (p1 : TValue) : Le (fun r x => Pu (D.bool r) [] x) (i_Heap_fits p0 p1) (vcall T 223 [D.agg [D.int .i64 p0.Next, D.sl false 10 (List.map (TObject.e false) p0.Objects)], D.agg [D.int .i64 p1.Kind, D.int .i64 p1.Num, D.str p1.Text, D.int .i64 p1.Ref]] []) := by
  unfold i_Heap_fits
  refine Le.enter (g := v223) rfl rfl rfl rfl ?_
  repeat' (try conv => arg 3; simp (maxSteps := 999999) only [sx, ty, ↓reduceIte, reduceCtorEq, Nat.reduceAdd, Nat.reduceSub, Nat.reduceLeDiff, Nat.reduceEqDiff, Nat.reduceLT, Nat.reduceMul, Nat.reduceBNe, List.reduceReplicate, Int.reduceLE, Int.reduceLT, Int.reduceEq, Int.reduceToNat, Int.reduceNeg, *, v223, v223_b]); first
    | (refine Le.call (g_i_ValidValue _) fun _ _ _ hy => ?_; obtain ⟨_, rfl⟩ := hy)
    | (refine Le.call (g_i_refers _) fun _ _ _ hy => ?_; obtain ⟨_, rfl⟩ := hy)
    | exact p_i_Heap_fits_j1 _ _ _
    | with_reducible refine Le.bool (fun _ => ?_) (fun _ => ?_)
    | ((with_reducible refine Le.ret ?_); first | exact rfl | exact Pu.mk)
noncomputable abbrev x_i_areAll_Value_2_l1 (s0 : List TValue) (s1 : THeap) (s7 : List TValue) (s8 : Int) (s9 : Int) (k : List Fr) : Option Res := go T (enF [.tmp 4] []) v222_m1 (.lp v222_l1 :: .bl 0 :: .sq (.clr [4,6,7,8,9,10,11,12,13,14,15,16,17]) :: k) ⟨[.d (D.sl false 4 (List.map (TValue.e false) s0)), .d (D.bf 223 [D.agg [D.int .i64 s1.Next, D.sl false 10 (List.map (TObject.e false) s1.Objects)]]), Z, Z, Z, Z, Z, .d (D.sl false 4 (List.map (TValue.e false) s7)), .d (D.int .i64 s8), .d (D.int .i64 s9), Z, Z, Z, Z, Z, Z, Z, Z], []⟩
noncomputable abbrev q_i_areAll_Value_2_l1 (s0 : List TValue) (s1 : THeap) (s7 : List TValue) (s8 : Int) (k : List Fr) (t : (Unit ⊕ Bool)) (x : Option Res) : Prop := match t with | .inl t => x = bk T (enF [.tmp 4] []) k ⟨[.d (D.sl false 4 (List.map (TValue.e false) s0)), .d (D.bf 223 [D.agg [D.int .i64 s1.Next, D.sl false 10 (List.map (TObject.e false) s1.Objects)]]), Z, Z, Z, Z, Z, Z, Z, Z, Z, Z, Z, Z, Z, Z, Z, Z], []⟩ | .inr t => Pu (D.bool t) [] x
theorem p_i_areAll_Value_2_l1 (s0 : List TValue) (s1 : THeap) (s7 : List TValue) (s8 : Int) : ∀ (s9 : Int) (k : List Fr), Le (q_i_areAll_Value_2_l1 s0 s1 s7 s8 k) (i_areAll_Value_2_l1 s0 s1 s7 s8 s9) (x_i_areAll_Value_2_l1 s0 s1 s7 s8 s9 k) := by
  intro s9 k
  refine Le.cp (X := x_i_areAll_Value_2_l1 s0 s1 s7 s8 s9) (Q := q_i_areAll_Value_2_l1 s0 s1 s7 s8) ?_ k
  refine i_areAll_Value_2_l1.partial_correctness s0 s1 s7 s8 (motive := fun s9 r => ∀ k : List Fr, q_i_areAll_Value_2_l1 s0 s1 s7 s8 k r (x_i_areAll_Value_2_l1 s0 s1 s7 s8 s9 k)) ?_ s9
  intro rec hrec s9
  refine Le.pc ?_
  intro k
  unfold x_i_areAll_Value_2_l1 v222_m1
  repeat' (try conv => arg 3; simp (maxSteps := 999999) only [sx, ty, ↓reduceIte, reduceCtorEq, Nat.reduceAdd, Nat.reduceSub, Nat.reduceLeDiff, Nat.reduceEqDiff, Nat.reduceLT, Nat.reduceMul, Nat.reduceBNe, List.reduceReplicate, Int.reduceLE, Int.reduceLT, Int.reduceEq, Int.reduceToNat, Int.reduceNeg, *, w222_1]); first
    | (refine Le.call (g_i_Heap_fits _ _) fun _ _ _ hy => ?_; obtain ⟨_, rfl⟩ := hy)
    | with_reducible refine Le.idx fun _ _ _ _ => ?_
    | with_reducible refine Le.bool (fun _ => ?_) (fun _ => ?_)
    | ((with_reducible refine Le.ret ?_); first | exact rfl | exact Pu.mk)
    | with_reducible refine Le.itq (fun _ => ?_) (fun _ => ?_)
    | exact fun r hr => hrec _ r hr k
theorem g_i_areAll_Value_2 (p0 : List TValue) (p1 : THeap) : Le (fun r x => Pu (D.bool r) [] x) (i_areAll_Value_2 p0 p1) (vcall T 222 [D.sl false 4 (List.map (TValue.e false) p0), D.bf 223 [D.agg [D.int .i64 p1.Next, D.sl false 10 (List.map (TObject.e false) p1.Objects)]]] []) := by
  unfold i_areAll_Value_2
  refine Le.enter (g := v222) rfl rfl rfl rfl ?_
  repeat' (try conv => arg 3; simp (maxSteps := 999999) only [sx, ty, ↓reduceIte, reduceCtorEq, Nat.reduceAdd, Nat.reduceSub, Nat.reduceLeDiff, Nat.reduceEqDiff, Nat.reduceLT, Nat.reduceMul, Nat.reduceBNe, List.reduceReplicate, Int.reduceLE, Int.reduceLT, Int.reduceEq, Int.reduceToNat, Int.reduceNeg, *, w222_1, v222, v222_b]); first
    | (refine Le.via (p_i_areAll_Value_2_l1 _ _ _ _ _ _) fun t _ _ hy => ?_; rcases t with t | t <;> (try dsimp only [q_i_areAll_Value_2_l1] at hy; first | subst hy | obtain ⟨_, rfl⟩ := hy))
    | ((with_reducible refine Le.ret ?_); first | exact rfl | exact Pu.mk)
theorem g_i_ValidHeap_1 (p0 : TObject) (g0 : Int) (g0_1 : List TObject) : Le (fun r x => x = some (D.bool r, [], [[D.int .i64 g0, D.sl false 10 (List.map (TObject.e false) g0_1)]])) (i_ValidHeap_1 p0 g0 g0_1) (vcall T 253 [D.agg [D.int .i64 p0.Id, D.int .i64 p0.Kind, D.str p0.Name, D.int .i64 p0.Low, D.sl false 4 (List.map (TValue.e false) p0.Keys), D.sl false 4 (List.map (TValue.e false) p0.Vals), D.int .i64 p0.Default.Kind, D.int .i64 p0.Default.Num, D.str p0.Default.Text, D.int .i64 p0.Default.Ref], D.ref 0 0] [[D.int .i64 g0, D.sl false 10 (List.map (TObject.e false) g0_1)]]) := by
  unfold i_ValidHeap_1
  refine Le.enter (g := v253) rfl rfl rfl rfl ?_
  repeat' (try conv => arg 3; simp (maxSteps := 999999) only [sx, ty, ↓reduceIte, reduceCtorEq, Nat.reduceAdd, Nat.reduceSub, Nat.reduceLeDiff, Nat.reduceEqDiff, Nat.reduceLT, Nat.reduceMul, Nat.reduceBNe, List.reduceReplicate, Int.reduceLE, Int.reduceLT, Int.reduceEq, Int.reduceToNat, Int.reduceNeg, *, v253, v253_b]); first
    | (refine Le.dcall (g_i_Object_values _) fun _ _ _ hy => ?_; obtain ⟨_, rfl⟩ := hy)
    | (refine Le.dcall (g_i_areAll_Value_2 _ _) fun _ _ _ hy => ?_; obtain ⟨_, rfl⟩ := hy)
    | ((with_reducible refine Le.ret ?_); first | exact rfl | exact Pu.mk)
noncomputable abbrev x_i_areAll_Object_1_l1 (s0 : List TObject) (s7 : List TObject) (s8 : Int) (g0 : Int) (g0_1 : List TObject) (s9 : Int) (k : List Fr) : Option Res := go T (enF [.tmp 4] []) v251_m1 (.lp v251_l1 :: .bl 0 :: .sq (.clr [4,6,7,8,9,10,11,12,13,14,15,16,17]) :: k) ⟨[.d (D.sl false 10 (List.map (TObject.e false) s0)), .d (D.fn 253 [D.ref 0 0]), Z, Z, Z, Z, Z, .d (D.sl false 10 (List.map (TObject.e false) s7)), .d (D.int .i64 s8), .d (D.int .i64 s9), Z, Z, Z, Z, Z, Z, Z, Z], [[D.int .i64 g0, D.sl false 10 (List.map (TObject.e false) g0_1)]]⟩
noncomputable abbrev q_i_areAll_Object_1_l1 (s0 : List TObject) (s7 : List TObject) (s8 : Int) (g0 : Int) (g0_1 : List TObject) (k : List Fr) (t : (Unit ⊕ Bool)) (x : Option Res) : Prop := match t with | .inl t => x = bk T (enF [.tmp 4] []) k ⟨[.d (D.sl false 10 (List.map (TObject.e false) s0)), .d (D.fn 253 [D.ref 0 0]), Z, Z, Z, Z, Z, Z, Z, Z, Z, Z, Z, Z, Z, Z, Z, Z], [[D.int .i64 g0, D.sl false 10 (List.map (TObject.e false) g0_1)]]⟩ | .inr t => x = some (D.bool t, [], [[D.int .i64 g0, D.sl false 10 (List.map (TObject.e false) g0_1)]])
theorem p_i_areAll_Object_1_l1 (s0 : List TObject) (s7 : List TObject) (s8 : Int) (g0 : Int) (g0_1 : List TObject) : ∀ (s9 : Int) (k : List Fr), Le (q_i_areAll_Object_1_l1 s0 s7 s8 g0 g0_1 k) (i_areAll_Object_1_l1 s0 s7 s8 g0 g0_1 s9) (x_i_areAll_Object_1_l1 s0 s7 s8 g0 g0_1 s9 k) := by
  intro s9 k
  refine Le.cp (X := x_i_areAll_Object_1_l1 s0 s7 s8 g0 g0_1 s9) (Q := q_i_areAll_Object_1_l1 s0 s7 s8 g0 g0_1) ?_ k
  refine i_areAll_Object_1_l1.partial_correctness s0 s7 s8 g0 g0_1 (motive := fun s9 r => ∀ k : List Fr, q_i_areAll_Object_1_l1 s0 s7 s8 g0 g0_1 k r (x_i_areAll_Object_1_l1 s0 s7 s8 g0 g0_1 s9 k)) ?_ s9
  intro rec hrec s9
  refine Le.pc ?_
  intro k
  unfold x_i_areAll_Object_1_l1 v251_m1
  repeat' (try conv => arg 3; simp (maxSteps := 999999) only [sx, ty, ↓reduceIte, reduceCtorEq, Nat.reduceAdd, Nat.reduceSub, Nat.reduceLeDiff, Nat.reduceEqDiff, Nat.reduceLT, Nat.reduceMul, Nat.reduceBNe, List.reduceReplicate, Int.reduceLE, Int.reduceLT, Int.reduceEq, Int.reduceToNat, Int.reduceNeg, *, w251_1]); first
    | (refine Le.call (g_i_ValidHeap_1 _ _ _) fun _ _ _ hy => ?_; subst hy)
    | with_reducible refine Le.idx fun _ _ _ _ => ?_
    | with_reducible refine Le.bool (fun _ => ?_) (fun _ => ?_)
    | ((with_reducible refine Le.ret ?_); first | exact rfl | exact Pu.mk)
    | with_reducible refine Le.itq (fun _ => ?_) (fun _ => ?_)
    | exact fun r hr => hrec _ r hr k
theorem g_i_areAll_Object_1 (p0 : List TObject) (g0 : Int) (g0_1 : List TObject) : Le (fun r x => x = some (D.bool r, [], [[D.int .i64 g0, D.sl false 10 (List.map (TObject.e false) g0_1)]])) (i_areAll_Object_1 p0 g0 g0_1) (vcall T 251 [D.sl false 10 (List.map (TObject.e false) p0), D.fn 253 [D.ref 0 0]] [[D.int .i64 g0, D.sl false 10 (List.map (TObject.e false) g0_1)]]) := by
  unfold i_areAll_Object_1
  refine Le.enter (g := v251) rfl rfl rfl rfl ?_
  repeat' (try conv => arg 3; simp (maxSteps := 999999) only [sx, ty, ↓reduceIte, reduceCtorEq, Nat.reduceAdd, Nat.reduceSub, Nat.reduceLeDiff, Nat.reduceEqDiff, Nat.reduceLT, Nat.reduceMul, Nat.reduceBNe, List.reduceReplicate, Int.reduceLE, Int.reduceLT, Int.reduceEq, Int.reduceToNat, Int.reduceNeg, *, w251_1, v251, v251_b]); first
    | (refine Le.via (p_i_areAll_Object_1_l1 _ _ _ _ _ _ _) fun t _ _ hy => ?_; rcases t with t | t <;> (try dsimp only [q_i_areAll_Object_1_l1] at hy; first | subst hy | obtain ⟨_, rfl⟩ := hy))
    | ((with_reducible refine Le.ret ?_); first | exact rfl | exact Pu.mk)
noncomputable abbrev x_i_ValidHeap_l1 (s1 : THeap) (s23 : List TObject) (s24 : Int) (s3 : Int) (s25 : Int) (k : List Fr) : Option Res := go T (enF [.tmp 2] []) v221_m1 (.lp v221_l1 :: .bl 0 :: .sq (.clr [0,2,3,5,6,7,8,9,10,11,12,13,14,15,16,17,18,19,20,21,22,23,24,25,26,27,28,29,30,31,32,33,34,35,36,37,38,39,40,41,42]) :: k) ⟨[Z, .box [D.int .i64 s1.Next, D.sl false 10 (List.map (TObject.e false) s1.Objects)], Z, .d (D.int .i64 s3), Z, Z, Z, Z, Z, Z, Z, Z, Z, Z, Z, Z, Z, Z, Z, Z, Z, Z, .ptr ⟨.slot 1, [], 1⟩, .d (D.sl false 10 (List.map (TObject.e false) s23)), .d (D.int .i64 s24), .d (D.int .i64 s25), Z, Z, Z, Z, Z, Z, Z, Z, Z, Z, Z, Z, Z, Z, Z, Z, Z, Z, Z, Z, Z], []⟩
noncomputable abbrev q_i_ValidHeap_l1 (s1 : THeap) (s23 : List TObject) (s24 : Int) (k : List Fr) (t : (Unit ⊕ Bool)) (x : Option Res) : Prop := match t with | .inl t => x = bk T (enF [.tmp 2] []) k ⟨[Z, .box [D.int .i64 s1.Next, D.sl false 10 (List.map (TObject.e false) s1.Objects)], Z, Z, Z, Z, Z, Z, Z, Z, Z, Z, Z, Z, Z, Z, Z, Z, Z, Z, Z, Z, Z, Z, Z, Z, Z, Z, Z, Z, Z, Z, Z, Z, Z, Z, Z, Z, Z, Z, Z, Z, Z, Z, Z, Z, Z], []⟩ | .inr t => Pu (D.bool t) [] x
theorem p_i_ValidHeap_l1 (s1 : THeap) (s23 : List TObject) (s24 : Int) : ∀ (s3 : Int) (s25 : Int) (k : List Fr), Le (q_i_ValidHeap_l1 s1 s23 s24 k) (i_ValidHeap_l1 s1 s23 s24 s3 s25) (x_i_ValidHeap_l1 s1 s23 s24 s3 s25 k) := by
  intro s3 s25 k
  refine Le.cp (X := x_i_ValidHeap_l1 s1 s23 s24 s3 s25) (Q := q_i_ValidHeap_l1 s1 s23 s24) ?_ k
  refine i_ValidHeap_l1.partial_correctness s1 s23 s24 (motive := fun s3 s25 r => ∀ k : List Fr, q_i_ValidHeap_l1 s1 s23 s24 k r (x_i_ValidHeap_l1 s1 s23 s24 s3 s25 k)) ?_ s3 s25
  intro rec hrec s3 s25
  refine Le.pc ?_
  intro k
  unfold x_i_ValidHeap_l1 v221_m1
  repeat' (try conv => arg 3; simp (maxSteps := 999999) only [sx, ty, ↓reduceIte, reduceCtorEq, Nat.reduceAdd, Nat.reduceSub, Nat.reduceLeDiff, Nat.reduceEqDiff, Nat.reduceLT, Nat.reduceMul, Nat.reduceBNe, List.reduceReplicate, Int.reduceLE, Int.reduceLT, Int.reduceEq, Int.reduceToNat, Int.reduceNeg, *, w221_1]); first
    | with_reducible refine Le.idx fun _ _ _ _ => ?_
    | ((with_reducible refine Le.ret ?_); first | exact rfl | exact Pu.mk)
    | with_reducible refine Le.itq (fun _ => ?_) (fun _ => ?_)
    | exact fun r hr => hrec _ _ r hr k
noncomputable abbrev x_i_ValidHeap_j1 (s1 : THeap) (k : List Fr) : Option Res := go T (enF [.tmp 2] []) v221_j1 k ⟨[Z, .box [D.int .i64 s1.Next, D.sl false 10 (List.map (TObject.e false) s1.Objects)], Z, Z, Z, Z, Z, Z, Z, Z, Z, Z, Z, Z, Z, Z, Z, Z, Z, Z, Z, Z, Z, Z, Z, Z, Z, Z, Z, Z, Z, Z, Z, Z, Z, Z, Z, Z, Z, Z, Z, Z, Z, Z, Z, Z, Z], []⟩
noncomputable abbrev q_i_ValidHeap_j1 (s1 : THeap) (k : List Fr) (t : Bool) (x : Option Res) : Prop := Pu (D.bool t) [] x
theorem p_i_ValidHeap_j1 (s1 : THeap) (k : List Fr) : Le (q_i_ValidHeap_j1 s1 k) (i_ValidHeap_j1 s1) (x_i_ValidHeap_j1 s1 k) := by
  unfold i_ValidHeap_j1 x_i_ValidHeap_j1 v221_j1
  repeat' (try conv => arg 3; simp (maxSteps := 999999) only [sx, ty, ↓reduceIte, reduceCtorEq, Nat.reduceAdd, Nat.reduceSub, Nat.reduceLeDiff, Nat.reduceEqDiff, Nat.reduceLT, Nat.reduceMul, Nat.reduceBNe, List.reduceReplicate, Int.reduceLE, Int.reduceLT, Int.reduceEq, Int.reduceToNat, Int.reduceNeg, *, w221_1]); first
    | (refine Le.via (p_i_ValidHeap_l1 _ _ _ _ _ _) fun t _ _ hy => ?_; rcases t with t | t <;> (try dsimp only [q_i_ValidHeap_l1] at hy; first | subst hy | obtain ⟨_, rfl⟩ := hy))
    | (refine Le.call (g_i_areAll_Object_1 _ _ _) fun _ _ _ hy => ?_; subst hy)
    | ((with_reducible refine Le.ret ?_); first | exact rfl | exact Pu.mk)
theorem g_i_ValidHeap (p0 : THeap) : Le (fun r x => Pu (D.bool r) [] x) (i_ValidHeap p0) (vcall T 221 [D.agg [D.int .i64 p0.Next, D.sl false 10 (List.map (TObject.e false) p0.Objects)]] []) := by
  unfold i_ValidHeap
  refine Le.enter (g := v221) rfl rfl rfl rfl ?_
  repeat' (try conv => arg 3; simp (maxSteps := 999999) only [sx, ty, ↓reduceIte, reduceCtorEq, Nat.reduceAdd, Nat.reduceSub, Nat.reduceLeDiff, Nat.reduceEqDiff, Nat.reduceLT, Nat.reduceMul, Nat.reduceBNe, List.reduceReplicate, Int.reduceLE, Int.reduceLT, Int.reduceEq, Int.reduceToNat, Int.reduceNeg, *, w221_1, v221, v221_b]); first
    | (refine Le.call (g_i_within _ _ _) fun _ _ _ hy => ?_; obtain ⟨_, rfl⟩ := hy)
    | (refine Le.call (g_i_areAll_Object _) fun _ _ _ hy => ?_; obtain ⟨_, rfl⟩ := hy)
    | exact p_i_ValidHeap_j1 _ _
    | with_reducible refine Le.bool (fun _ => ?_) (fun _ => ?_)
    | ((with_reducible refine Le.ret ?_); first | exact rfl | exact Pu.mk)
    | with_reducible refine Le.itq (fun _ => ?_) (fun _ => ?_)
theorem g_i_ValidRoots (p0 : THeap) (p1 : List TValue) : Le (fun r x => Pu (D.bool r) [] x) (i_ValidRoots p0 p1) (vcall T 171 [D.agg [D.int .i64 p0.Next, D.sl false 10 (List.map (TObject.e false) p0.Objects)], D.sl false 4 (List.map (TValue.e false) p1)] []) := by
  unfold i_ValidRoots
  refine Le.enter (g := v171) rfl rfl rfl rfl ?_
  repeat' (try conv => arg 3; simp (maxSteps := 999999) only [sx, ty, ↓reduceIte, reduceCtorEq, Nat.reduceAdd, Nat.reduceSub, Nat.reduceLeDiff, Nat.reduceEqDiff, Nat.reduceLT, Nat.reduceMul, Nat.reduceBNe, List.reduceReplicate, Int.reduceLE, Int.reduceLT, Int.reduceEq, Int.reduceToNat, Int.reduceNeg, *, v171, v171_b]); first
    | (refine Le.call (g_i_ValidHeap _) fun _ _ _ hy => ?_; obtain ⟨_, rfl⟩ := hy)
    | (refine Le.call (g_i_areAll_Value_2 _ _) fun _ _ _ hy => ?_; obtain ⟨_, rfl⟩ := hy)
    | with_reducible refine Le.bool (fun _ => ?_) (fun _ => ?_)
    | ((with_reducible refine Le.ret ?_); first | exact rfl | exact Pu.mk)
theorem g_i_unless (p0 : Bool) (p1 : Int) : Le (fun r x => Pu (D.int .i64 r) [] x) (i_unless p0 p1) (vcall T 100 [D.bool p0, D.int .i64 p1] []) := by
  unfold i_unless
  refine Le.enter (g := v100) rfl rfl rfl rfl ?_
  repeat' (try conv => arg 3; simp (maxSteps := 999999) only [sx, ty, ↓reduceIte, reduceCtorEq, Nat.reduceAdd, Nat.reduceSub, Nat.reduceLeDiff, Nat.reduceEqDiff, Nat.reduceLT, Nat.reduceMul, Nat.reduceBNe, List.reduceReplicate, Int.reduceLE, Int.reduceLT, Int.reduceEq, Int.reduceToNat, Int.reduceNeg, *, v100, v100_b]); first
    | with_reducible refine Le.bool (fun _ => ?_) (fun _ => ?_)
    | ((with_reducible refine Le.ret ?_); first | exact rfl | exact Pu.mk)
theorem g_i_fitAll (p0 : THeap) (p1 : List TValue) : Le (fun r x => Pu (D.int .i64 r) [] x) (i_fitAll p0 p1) (vcall T 99 [D.agg [D.int .i64 p0.Next, D.sl false 10 (List.map (TObject.e false) p0.Objects)], D.sl false 4 (List.map (TValue.e false) p1)] []) := by
  unfold i_fitAll
  refine Le.enter (g := v99) rfl rfl rfl rfl ?_
  repeat' (try conv => arg 3; simp (maxSteps := 999999) only [sx, ty, ↓reduceIte, reduceCtorEq, Nat.reduceAdd, Nat.reduceSub, Nat.reduceLeDiff, Nat.reduceEqDiff, Nat.reduceLT, Nat.reduceMul, Nat.reduceBNe, List.reduceReplicate, Int.reduceLE, Int.reduceLT, Int.reduceEq, Int.reduceToNat, Int.reduceNeg, *, v99, v99_b]); first
    | (refine Le.call (g_i_ValidRoots _ _) fun _ _ _ hy => ?_; obtain ⟨_, rfl⟩ := hy)
    | (refine Le.call (g_i_unless _ _) fun _ _ _ hy => ?_; obtain ⟨_, rfl⟩ := hy)
    | ((with_reducible refine Le.ret ?_); first | exact rfl | exact Pu.mk)
noncomputable abbrev x_i_first_l1 (s0 : List Int) (s5 : List Int) (s6 : Int) (s7 : Int) (k : List Fr) : Option Res := go T (enF [.tmp 2] []) v98_m1 (.lp v98_l1 :: .bl 0 :: .sq (.clr [2,4,5,6,7,8,9,10,11,12,13,14]) :: k) ⟨[.d (D.sl false 1 (List.map (D.int .i64) s0)), Z, Z, Z, Z, .d (D.sl false 1 (List.map (D.int .i64) s5)), .d (D.int .i64 s6), .d (D.int .i64 s7), Z, Z, Z, Z, Z, Z, Z], []⟩
noncomputable abbrev q_i_first_l1 (s0 : List Int) (s5 : List Int) (s6 : Int) (k : List Fr) (t : (Unit ⊕ Int)) (x : Option Res) : Prop := match t with | .inl t => x = bk T (enF [.tmp 2] []) k ⟨[.d (D.sl false 1 (List.map (D.int .i64) s0)), Z, Z, Z, Z, Z, Z, Z, Z, Z, Z, Z, Z, Z, Z], []⟩ | .inr t => Pu (D.int .i64 t) [] x
theorem p_i_first_l1 (s0 : List Int) (s5 : List Int) (s6 : Int) : ∀ (s7 : Int) (k : List Fr), Le (q_i_first_l1 s0 s5 s6 k) (i_first_l1 s0 s5 s6 s7) (x_i_first_l1 s0 s5 s6 s7 k) := by
  intro s7 k
  refine Le.cp (X := x_i_first_l1 s0 s5 s6 s7) (Q := q_i_first_l1 s0 s5 s6) ?_ k
  refine i_first_l1.partial_correctness s0 s5 s6 (motive := fun s7 r => ∀ k : List Fr, q_i_first_l1 s0 s5 s6 k r (x_i_first_l1 s0 s5 s6 s7 k)) ?_ s7
  intro rec hrec s7
  refine Le.pc ?_
  intro k
  unfold x_i_first_l1 v98_m1
  repeat' (try conv => arg 3; simp (maxSteps := 999999) only [sx, ty, ↓reduceIte, reduceCtorEq, Nat.reduceAdd, Nat.reduceSub, Nat.reduceLeDiff, Nat.reduceEqDiff, Nat.reduceLT, Nat.reduceMul, Nat.reduceBNe, List.reduceReplicate, Int.reduceLE, Int.reduceLT, Int.reduceEq, Int.reduceToNat, Int.reduceNeg, *, w98_1]); first
    | with_reducible refine Le.idx fun _ _ _ _ => ?_
    | ((with_reducible refine Le.ret ?_); first | exact rfl | exact Pu.mk)
    | with_reducible refine Le.itq (fun _ => ?_) (fun _ => ?_)
    | exact fun r hr => hrec _ r hr k
theorem g_i_first (p0 : List Int) : Le (fun r x => Pu (D.int .i64 r) [] x) (i_first p0) (vcall T 98 [D.sl false 1 (List.map (D.int .i64) p0)] []) := by
  unfold i_first
  refine Le.enter (g := v98) rfl rfl rfl rfl ?_
  repeat' (try conv => arg 3; simp (maxSteps := 999999) only [sx, ty, ↓reduceIte, reduceCtorEq, Nat.reduceAdd, Nat.reduceSub, Nat.reduceLeDiff, Nat.reduceEqDiff, Nat.reduceLT, Nat.reduceMul, Nat.reduceBNe, List.reduceReplicate, Int.reduceLE, Int.reduceLT, Int.reduceEq, Int.reduceToNat, Int.reduceNeg, *, w98_1, v98, v98_b]); first
    | (refine Le.via (p_i_first_l1 _ _ _ _ _) fun t _ _ hy => ?_; rcases t with t | t <;> (try dsimp only [q_i_first_l1] at hy; first | subst hy | obtain ⟨_, rfl⟩ := hy))
    | ((with_reducible refine Le.ret ?_); first | exact rfl | exact Pu.mk)
theorem c_slices_Clone_Value_Value (xs : List TValue) (h : xs.length ≤ 2147483648) : vcall T 101 [.sl false 4 (xs.map (TValue.e false))] [] = some (.sl true 4 (xs.map (TValue.e false)), [], []) := by
  cases xs with
  | nil =>
    rw [vcall_go T (g := v101) rfl rfl rfl _ _ rfl]
    simp (maxSteps := 9999999) (disch := omega) only [vx, px, ty, ↓reduceIte, Bool.false_eq_true, reduceCtorEq, Nat.reduceAdd, Nat.reduceSub, Nat.reduceLeDiff, Nat.reduceEqDiff, Nat.reduceLT, Nat.reduceMul, List.reduceReplicate, and_true, true_and, and_false, false_and, and_self, or_true, true_or, or_false, false_or, not_true_eq_false, not_false_eq_true, ne_eq, vxd, Nat.reduceBNe, most, ifT, ifF, v101, v101_b]
  | cons x xs =>
    rw [List.length_cons] at h
    rw [vcall_go T (g := v101) rfl rfl rfl _ _ rfl]
    simp (maxSteps := 9999999) (disch := omega) only [vx, px, ty, ↓reduceIte, Bool.false_eq_true, reduceCtorEq, Nat.reduceAdd, Nat.reduceSub, Nat.reduceLeDiff, Nat.reduceEqDiff, Nat.reduceLT, Nat.reduceMul, List.reduceReplicate, and_true, true_and, and_false, false_and, and_self, or_true, true_or, or_false, false_or, not_true_eq_false, not_false_eq_true, ne_eq, vxd, Nat.reduceBNe, most, ifT, ifF, v101, v101_b]
theorem g_slices_Clone_Value_Value (p0 : List TValue) : Le (fun r x => Pu (D.sl true 4 (List.map (TValue.e false) r)) [] x) (slices_Clone_Value_Value p0) (vcall T 101 [D.sl false 4 (List.map (TValue.e false) p0)] []) := by
  unfold slices_Clone_Value_Value
  refine Le.chk fun h => Le.ret ?_
  exact ⟨_, c_slices_Clone_Value_Value p0 h⟩
theorem g_i_null : Le (fun r x => Pu (D.agg [D.int .i64 r.Kind, D.int .i64 r.Num, D.str r.Text, D.int .i64 r.Ref]) [] x) (i_null) (vcall T 103 [] []) := by
  unfold i_null
  refine Le.enter (g := v103) rfl rfl rfl rfl ?_
  repeat' (try conv => arg 3; simp (maxSteps := 999999) only [sx, ty, ↓reduceIte, reduceCtorEq, Nat.reduceAdd, Nat.reduceSub, Nat.reduceLeDiff, Nat.reduceEqDiff, Nat.reduceLT, Nat.reduceMul, Nat.reduceBNe, List.reduceReplicate, Int.reduceLE, Int.reduceLT, Int.reduceEq, Int.reduceToNat, Int.reduceNeg, *, v103, v103_b]); first
    | (refine Le.call (g_i_textOf _) fun _ _ _ hy => ?_; obtain ⟨_, rfl⟩ := hy)
    | ((with_reducible refine Le.ret ?_); first | exact rfl | exact Pu.mk)
theorem g_i_Object_copied (p0 : TObject) : Le (fun r x => Pu (D.agg [D.int .i64 r.Id, D.int .i64 r.Kind, D.str r.Name, D.int .i64 r.Low, D.sl true 4 (List.map (TValue.e false) r.Keys), D.sl true 4 (List.map (TValue.e false) r.Vals), D.int .i64 r.Default.Kind, D.int .i64 r.Default.Num, D.str r.Default.Text, D.int .i64 r.Default.Ref]) [] x) (i_Object_copied p0) (vcall T 225 [D.agg [D.int .i64 p0.Id, D.int .i64 p0.Kind, D.str p0.Name, D.int .i64 p0.Low, D.sl false 4 (List.map (TValue.e false) p0.Keys), D.sl false 4 (List.map (TValue.e false) p0.Vals), D.int .i64 p0.Default.Kind, D.int .i64 p0.Default.Num, D.str p0.Default.Text, D.int .i64 p0.Default.Ref]] []) := by
  unfold i_Object_copied
  refine Le.enter (g := v225) rfl rfl rfl rfl ?_
  repeat' (try conv => arg 3; simp (maxSteps := 999999) only [sx, ty, ↓reduceIte, reduceCtorEq, Nat.reduceAdd, Nat.reduceSub, Nat.reduceLeDiff, Nat.reduceEqDiff, Nat.reduceLT, Nat.reduceMul, Nat.reduceBNe, List.reduceReplicate, Int.reduceLE, Int.reduceLT, Int.reduceEq, Int.reduceToNat, Int.reduceNeg, *, v225, v225_b]); first
    | (refine Le.dcall (g_slices_Clone_Value_Value _) fun _ _ _ hy => ?_; obtain ⟨_, rfl⟩ := hy)
    | ((with_reducible refine Le.ret ?_); first | exact rfl | exact Pu.mk)
noncomputable abbrev x_i_Heap_copied_l1 (s1 : THeap) (s2 : THeap) (s10 : List TObject) (s11 : Int) (s3 : THeap) (s12 : Int) (k : List Fr) : Option Res := go T (enF [.cell 2 (.many 2)] []) v224_m1 (.lp v224_l1 :: .bl 0 :: .sq (.clr [0,1,5,6,7,8,9,10,11,12,13,14,15,16,17,18,19,20,21,22,23]) :: k) ⟨[Z, .box [D.int .i64 s1.Next, D.sl false 10 (List.map (TObject.e false) s1.Objects)], .box [D.int .i64 s2.Next, D.sl true 10 (List.map (TObject.e true) s2.Objects)], .box [D.int .i64 s3.Next, D.sl true 10 (List.map (TObject.e true) s3.Objects)], Z, Z, Z, Z, Z, .ptr ⟨.slot 1, [], 1⟩, .d (D.sl false 10 (List.map (TObject.e false) s10)), .d (D.int .i64 s11), .d (D.int .i64 s12), Z, Z, Z, Z, Z, Z, Z, Z, Z, Z, Z, Z], []⟩
noncomputable abbrev q_i_Heap_copied_l1 (s1 : THeap) (s2 : THeap) (s10 : List TObject) (s11 : Int) (k : List Fr) (t : THeap) (x : Option Res) : Prop := x = bk T (enF [.cell 2 (.many 2)] []) k ⟨[Z, Z, .box [D.int .i64 s2.Next, D.sl true 10 (List.map (TObject.e true) s2.Objects)], .box [D.int .i64 t.Next, D.sl true 10 (List.map (TObject.e true) t.Objects)], Z, Z, Z, Z, Z, Z, Z, Z, Z, Z, Z, Z, Z, Z, Z, Z, Z, Z, Z, Z, Z], []⟩
theorem p_i_Heap_copied_l1 (s1 : THeap) (s2 : THeap) (s10 : List TObject) (s11 : Int) : ∀ (s3 : THeap) (s12 : Int) (k : List Fr), Le (q_i_Heap_copied_l1 s1 s2 s10 s11 k) (i_Heap_copied_l1 s1 s2 s10 s11 s3 s12) (x_i_Heap_copied_l1 s1 s2 s10 s11 s3 s12 k) := by
  intro s3 s12 k
  refine Le.cp (X := x_i_Heap_copied_l1 s1 s2 s10 s11 s3 s12) (Q := q_i_Heap_copied_l1 s1 s2 s10 s11) ?_ k
  refine i_Heap_copied_l1.partial_correctness s1 s2 s10 s11 (motive := fun s3 s12 r => ∀ k : List Fr, q_i_Heap_copied_l1 s1 s2 s10 s11 k r (x_i_Heap_copied_l1 s1 s2 s10 s11 s3 s12 k)) ?_ s3 s12
  intro rec hrec s3 s12
  refine Le.pc ?_
  intro k
  unfold x_i_Heap_copied_l1 v224_m1
  try conv => arg 3; simp (maxSteps := 999999) only [sx, ty, ↓reduceIte, reduceCtorEq, Nat.reduceAdd, Nat.reduceSub, Nat.reduceLeDiff, Nat.reduceEqDiff, Nat.reduceLT, Nat.reduceMul, Nat.reduceBNe, List.reduceReplicate, Int.reduceLE, Int.reduceLT, Int.reduceEq, Int.reduceToNat, Int.reduceNeg, *, w224_1]
  refine Le.itq (fun h => ?_) (fun h => ?_)
  · try conv => arg 3; simp (maxSteps := 999999) only [sx, ty, ↓reduceIte, reduceCtorEq, Nat.reduceAdd, Nat.reduceSub, Nat.reduceLeDiff, Nat.reduceEqDiff, Nat.reduceLT, Nat.reduceMul, Nat.reduceBNe, List.reduceReplicate, Int.reduceLE, Int.reduceLT, Int.reduceEq, Int.reduceToNat, Int.reduceNeg, *, w224_1]
    refine Le.idx fun a14 h_1 h_2 h_3 => ?_
    try conv => arg 3; simp (maxSteps := 999999) only [sx, ty, ↓reduceIte, reduceCtorEq, Nat.reduceAdd, Nat.reduceSub, Nat.reduceLeDiff, Nat.reduceEqDiff, Nat.reduceLT, Nat.reduceMul, Nat.reduceBNe, List.reduceReplicate, Int.reduceLE, Int.reduceLT, Int.reduceEq, Int.reduceToNat, Int.reduceNeg, *, w224_1]
    refine Le.dcall (g_i_Object_copied a14) fun r19 h_4 _ hy => ?_
    obtain ⟨_, rfl⟩ := hy
    try conv => arg 3; simp (maxSteps := 999999) only [sx, ty, ↓reduceIte, reduceCtorEq, Nat.reduceAdd, Nat.reduceSub, Nat.reduceLeDiff, Nat.reduceEqDiff, Nat.reduceLT, Nat.reduceMul, Nat.reduceBNe, List.reduceReplicate, Int.reduceLE, Int.reduceLT, Int.reduceEq, Int.reduceToNat, Int.reduceNeg, *, w224_1]
    refine Le.app fun c21 h_5 h_6 => ?_
    replace h_5 : List.map (TObject.e true) s3.Objects ++ [D.agg [D.int .i64 r19.Id, D.int .i64 r19.Kind, D.str r19.Name, D.int .i64 r19.Low, D.sl true 4 (List.map (TValue.e false) r19.Keys), D.sl true 4 (List.map (TValue.e false) r19.Vals), D.int .i64 r19.Default.Kind, D.int .i64 r19.Default.Num, D.str r19.Default.Text, D.int .i64 r19.Default.Ref]] = List.map (TObject.e true) c21 := by rw [h_5, List.map_append] <;> rfl
    replace h_6 : s3.Objects.length + 1 ≤ most := h_6
    try conv => arg 3; simp (maxSteps := 999999) only [sx, ty, ↓reduceIte, reduceCtorEq, Nat.reduceAdd, Nat.reduceSub, Nat.reduceLeDiff, Nat.reduceEqDiff, Nat.reduceLT, Nat.reduceMul, Nat.reduceBNe, List.reduceReplicate, Int.reduceLE, Int.reduceLT, Int.reduceEq, Int.reduceToNat, Int.reduceNeg, *, w224_1]
    exact fun r hr => hrec _ _ r hr k
  · try conv => arg 3; simp (maxSteps := 999999) only [sx, ty, ↓reduceIte, reduceCtorEq, Nat.reduceAdd, Nat.reduceSub, Nat.reduceLeDiff, Nat.reduceEqDiff, Nat.reduceLT, Nat.reduceMul, Nat.reduceBNe, List.reduceReplicate, Int.reduceLE, Int.reduceLT, Int.reduceEq, Int.reduceToNat, Int.reduceNeg, *, w224_1]
    ((with_reducible refine Le.ret ?_); first | exact rfl | exact Pu.mk)
theorem g_i_Heap_copied (p0 : THeap) : Le (fun r x => Pu (D.agg [D.int .i64 r.Next, D.sl true 10 (List.map (TObject.e true) r.Objects)]) [] x) (i_Heap_copied p0) (vcall T 224 [D.agg [D.int .i64 p0.Next, D.sl false 10 (List.map (TObject.e false) p0.Objects)]] []) := by
  unfold i_Heap_copied
  refine Le.enter (g := v224) rfl rfl rfl rfl ?_
  repeat' (try conv => arg 3; simp (maxSteps := 999999) only [sx, ty, ↓reduceIte, reduceCtorEq, Nat.reduceAdd, Nat.reduceSub, Nat.reduceLeDiff, Nat.reduceEqDiff, Nat.reduceLT, Nat.reduceMul, Nat.reduceBNe, List.reduceReplicate, Int.reduceLE, Int.reduceLT, Int.reduceEq, Int.reduceToNat, Int.reduceNeg, *, w224_1, v224, v224_b]); first
    | (refine Le.via (p_i_Heap_copied_l1 _ _ _ _ _ _ _) fun _ _ _ hy => ?_; try dsimp only [q_i_Heap_copied_l1] at hy; first | subst hy | obtain ⟨_, rfl⟩ := hy)
    | ((with_reducible refine Le.ret ?_); first | exact rfl | exact Pu.mk)
noncomputable abbrev x_i_Heap_add_j1 (s2 : THeap) (s3 : TObject) (s4 : THeap) (k : List Fr) : Option Res := go T (enF [.cell 4 (.many 2), .tmp 5, .tmp 6] []) v172_j1 k ⟨[Z, Z, .box [D.int .i64 s2.Next, D.sl false 10 (List.map (TObject.e false) s2.Objects)], .box [D.int .i64 s3.Id, D.int .i64 s3.Kind, D.str s3.Name, D.int .i64 s3.Low, D.sl false 4 (List.map (TValue.e false) s3.Keys), D.sl false 4 (List.map (TValue.e false) s3.Vals), D.int .i64 s3.Default.Kind, D.int .i64 s3.Default.Num, D.str s3.Default.Text, D.int .i64 s3.Default.Ref], .box [D.int .i64 s4.Next, D.sl true 10 (List.map (TObject.e true) s4.Objects)], Z, Z, Z, Z, Z, Z, Z, Z, Z, Z, Z, Z, Z, Z, Z, Z, Z, Z, Z, Z, Z, Z, Z, Z, Z, Z, Z, Z, Z, Z, Z, Z, Z], []⟩
noncomputable abbrev q_i_Heap_add_j1 (s2 : THeap) (s3 : TObject) (s4 : THeap) (k : List Fr) (t : (THeap × Int × Int)) (x : Option Res) : Prop := Pu (D.tup [D.agg [D.int .i64 t.1.Next, D.sl true 10 (List.map (TObject.e true) t.1.Objects)], D.int .i64 t.2.1, D.int .i64 t.2.2]) [] x
theorem p_i_Heap_add_j1 (s2 : THeap) (s3 : TObject) (s4 : THeap) (k : List Fr) : Le (q_i_Heap_add_j1 s2 s3 s4 k) (i_Heap_add_j1 s2 s3 s4) (x_i_Heap_add_j1 s2 s3 s4 k) := by
  unfold i_Heap_add_j1 x_i_Heap_add_j1 v172_j1
  try conv => arg 3; simp (maxSteps := 999999) only [sx, ty, ↓reduceIte, reduceCtorEq, Nat.reduceAdd, Nat.reduceSub, Nat.reduceLeDiff, Nat.reduceEqDiff, Nat.reduceLT, Nat.reduceMul, Nat.reduceBNe, List.reduceReplicate, Int.reduceLE, Int.reduceLT, Int.reduceEq, Int.reduceToNat, Int.reduceNeg, *]
  refine Le.call (g_i_Heap_copied s2) fun r19 h _ hy => ?_
  obtain ⟨_, rfl⟩ := hy
  try conv => arg 3; simp (maxSteps := 999999) only [sx, ty, ↓reduceIte, reduceCtorEq, Nat.reduceAdd, Nat.reduceSub, Nat.reduceLeDiff, Nat.reduceEqDiff, Nat.reduceLT, Nat.reduceMul, Nat.reduceBNe, List.reduceReplicate, Int.reduceLE, Int.reduceLT, Int.reduceEq, Int.reduceToNat, Int.reduceNeg, *]
  refine Le.call (g_i_Object_copied s3) fun r25 h_1 _ hy => ?_
  obtain ⟨_, rfl⟩ := hy
  try conv => arg 3; simp (maxSteps := 999999) only [sx, ty, ↓reduceIte, reduceCtorEq, Nat.reduceAdd, Nat.reduceSub, Nat.reduceLeDiff, Nat.reduceEqDiff, Nat.reduceLT, Nat.reduceMul, Nat.reduceBNe, List.reduceReplicate, Int.reduceLE, Int.reduceLT, Int.reduceEq, Int.reduceToNat, Int.reduceNeg, *]
  refine Le.app fun c33 h_2 h_3 => ?_
  replace h_2 : List.map (TObject.e true) r19.Objects ++ [D.agg [D.int .i64 (IntKind.wrap .i64 (r19.Next + 1)), D.int .i64 r25.Kind, D.str r25.Name, D.int .i64 r25.Low, D.sl true 4 (List.map (TValue.e false) r25.Keys), D.sl true 4 (List.map (TValue.e false) r25.Vals), D.int .i64 r25.Default.Kind, D.int .i64 r25.Default.Num, D.str r25.Default.Text, D.int .i64 r25.Default.Ref]] = List.map (TObject.e true) c33 := by rw [h_2, List.map_append] <;> rfl
  replace h_3 : r19.Objects.length + 1 ≤ most := h_3
  try conv => arg 3; simp (maxSteps := 999999) only [sx, ty, ↓reduceIte, reduceCtorEq, Nat.reduceAdd, Nat.reduceSub, Nat.reduceLeDiff, Nat.reduceEqDiff, Nat.reduceLT, Nat.reduceMul, Nat.reduceBNe, List.reduceReplicate, Int.reduceLE, Int.reduceLT, Int.reduceEq, Int.reduceToNat, Int.reduceNeg, *]
  ((with_reducible refine Le.ret ?_); first | exact rfl | exact Pu.mk)
theorem g_i_Heap_add (p0 : THeap) (p1 : TObject) : Le (fun r x => Pu (D.tup [D.agg [D.int .i64 r.1.Next, D.sl true 10 (List.map (TObject.e true) r.1.Objects)], D.int .i64 r.2.1, D.int .i64 r.2.2]) [] x) (i_Heap_add p0 p1) (vcall T 172 [D.agg [D.int .i64 p0.Next, D.sl false 10 (List.map (TObject.e false) p0.Objects)], D.agg [D.int .i64 p1.Id, D.int .i64 p1.Kind, D.str p1.Name, D.int .i64 p1.Low, D.sl false 4 (List.map (TValue.e false) p1.Keys), D.sl false 4 (List.map (TValue.e false) p1.Vals), D.int .i64 p1.Default.Kind, D.int .i64 p1.Default.Num, D.str p1.Default.Text, D.int .i64 p1.Default.Ref]] []) := by
  unfold i_Heap_add
  refine Le.enter (g := v172) rfl rfl rfl rfl ?_
  repeat' (try conv => arg 3; simp (maxSteps := 999999) only [sx, ty, ↓reduceIte, reduceCtorEq, Nat.reduceAdd, Nat.reduceSub, Nat.reduceLeDiff, Nat.reduceEqDiff, Nat.reduceLT, Nat.reduceMul, Nat.reduceBNe, List.reduceReplicate, Int.reduceLE, Int.reduceLT, Int.reduceEq, Int.reduceToNat, Int.reduceNeg, *, v172, v172_b]); first
    | exact p_i_Heap_add_j1 _ _ _ _
    | ((with_reducible refine Le.ret ?_); first | exact rfl | exact Pu.mk)
    | with_reducible refine Le.itq (fun _ => ?_) (fun _ => ?_)
theorem g_i_Object_reference (p0 : TObject) : Le (fun r x => Pu (D.agg [D.int .i64 r.Kind, D.int .i64 r.Num, D.str r.Text, D.int .i64 r.Ref]) [] x) (i_Object_reference p0) (vcall T 173 [D.agg [D.int .i64 p0.Id, D.int .i64 p0.Kind, D.str p0.Name, D.int .i64 p0.Low, D.sl false 4 (List.map (TValue.e false) p0.Keys), D.sl false 4 (List.map (TValue.e false) p0.Vals), D.int .i64 p0.Default.Kind, D.int .i64 p0.Default.Num, D.str p0.Default.Text, D.int .i64 p0.Default.Ref]] []) := by
  unfold i_Object_reference
  refine Le.enter (g := v173) rfl rfl rfl rfl ?_
  try conv => arg 3; simp (maxSteps := 999999) only [sx, ty, ↓reduceIte, reduceCtorEq, Nat.reduceAdd, Nat.reduceSub, Nat.reduceLeDiff, Nat.reduceEqDiff, Nat.reduceLT, Nat.reduceMul, Nat.reduceBNe, List.reduceReplicate, Int.reduceLE, Int.reduceLT, Int.reduceEq, Int.reduceToNat, Int.reduceNeg, *, v173, v173_b]
  ((with_reducible refine Le.ret ?_); first | exact rfl | exact Pu.mk)
theorem g_i_Heap_create (p0 : THeap) (p1 : TObject) : Le (fun r x => Pu (D.tup [D.agg [D.int .i64 r.1.Next, D.sl true 10 (List.map (TObject.e true) r.1.Objects)], D.agg [D.int .i64 r.2.1.Kind, D.int .i64 r.2.1.Num, D.str r.2.1.Text, D.int .i64 r.2.1.Ref], D.int .i64 r.2.2]) [] x) (i_Heap_create p0 p1) (vcall T 104 [D.agg [D.int .i64 p0.Next, D.sl false 10 (List.map (TObject.e false) p0.Objects)], D.agg [D.int .i64 p1.Id, D.int .i64 p1.Kind, D.str p1.Name, D.int .i64 p1.Low, D.sl false 4 (List.map (TValue.e false) p1.Keys), D.sl false 4 (List.map (TValue.e false) p1.Vals), D.int .i64 p1.Default.Kind, D.int .i64 p1.Default.Num, D.str p1.Default.Text, D.int .i64 p1.Default.Ref]] []) := by
  unfold i_Heap_create
  refine Le.enter (g := v104) rfl rfl rfl rfl ?_
  repeat' (try conv => arg 3; simp (maxSteps := 999999) only [sx, ty, ↓reduceIte, reduceCtorEq, Nat.reduceAdd, Nat.reduceSub, Nat.reduceLeDiff, Nat.reduceEqDiff, Nat.reduceLT, Nat.reduceMul, Nat.reduceBNe, List.reduceReplicate, Int.reduceLE, Int.reduceLT, Int.reduceEq, Int.reduceToNat, Int.reduceNeg, *, v104, v104_b]); first
    | (refine Le.call (g_i_Heap_add _ _) fun _ _ _ hy => ?_; obtain ⟨_, rfl⟩ := hy)
    | (refine Le.dcall (g_i_Object_reference _) fun _ _ _ hy => ?_; obtain ⟨_, rfl⟩ := hy)
    | ((with_reducible refine Le.ret ?_); first | exact rfl | exact Pu.mk)
    | with_reducible refine Le.itq (fun _ => ?_) (fun _ => ?_)
noncomputable abbrev x_i_NewRecord_l1 (s1 : ByteArray) (s2 : List ByteArray) (s3 : List TValue) (s4 : THeap) (s8 : THeap) (s9 : TValue) (s44 : List ByteArray) (s45 : Int) (s13 : TObject) (s46 : Int) (k : List Fr) : Option Res := go T (enF [.cell 8 (.many 2), .cell 9 (.many 4), .tmp 10] []) v39_m1 (.lp v39_l1 :: .bl 0 :: .sq (.clr [0,10,11,12,14,15,16,17,18,19,20,21,22,23,24,25,26,27,28,29,30,31,32,33,34,35,36,37,38,39,40,41,42,43,44,45,46,47,48,49,50,51,52,53,54,55,56,57,58,59,60,61,62,63,64,65,66,67,68]) :: k) ⟨[Z, .d (D.str s1), .d (D.sl false 1 (List.map D.str s2)), .d (D.sl false 4 (List.map (TValue.e false) s3)), .box [D.int .i64 s4.Next, D.sl false 10 (List.map (TObject.e false) s4.Objects)], Z, Z, Z, .box [D.int .i64 s8.Next, D.sl true 10 (List.map (TObject.e true) s8.Objects)], .box [D.int .i64 s9.Kind, D.int .i64 s9.Num, D.str s9.Text, D.int .i64 s9.Ref], Z, Z, Z, .box [D.int .i64 s13.Id, D.int .i64 s13.Kind, D.str s13.Name, D.int .i64 s13.Low, D.sl true 4 (List.map (TValue.e false) s13.Keys), D.sl true 4 (List.map (TValue.e false) s13.Vals), D.int .i64 s13.Default.Kind, D.int .i64 s13.Default.Num, D.str s13.Default.Text, D.int .i64 s13.Default.Ref], Z, Z, Z, Z, Z, Z, Z, Z, Z, Z, Z, Z, Z, Z, Z, Z, Z, Z, Z, Z, Z, Z, Z, Z, Z, Z, Z, Z, Z, Z, .d (D.sl false 1 (List.map D.str s44)), .d (D.int .i64 s45), .d (D.int .i64 s46), Z, Z, Z, Z, Z, Z, Z, Z, Z, Z, Z, Z, Z, Z, Z, Z, Z, Z, Z, Z, Z, Z, Z, Z, Z, Z, Z, Z], []⟩
noncomputable abbrev q_i_NewRecord_l1 (s1 : ByteArray) (s2 : List ByteArray) (s3 : List TValue) (s4 : THeap) (s8 : THeap) (s9 : TValue) (s44 : List ByteArray) (s45 : Int) (k : List Fr) (t : TObject) (x : Option Res) : Prop := x = bk T (enF [.cell 8 (.many 2), .cell 9 (.many 4), .tmp 10] []) k ⟨[Z, .d (D.str s1), .d (D.sl false 1 (List.map D.str s2)), .d (D.sl false 4 (List.map (TValue.e false) s3)), .box [D.int .i64 s4.Next, D.sl false 10 (List.map (TObject.e false) s4.Objects)], Z, Z, Z, .box [D.int .i64 s8.Next, D.sl true 10 (List.map (TObject.e true) s8.Objects)], .box [D.int .i64 s9.Kind, D.int .i64 s9.Num, D.str s9.Text, D.int .i64 s9.Ref], Z, Z, Z, .box [D.int .i64 t.Id, D.int .i64 t.Kind, D.str t.Name, D.int .i64 t.Low, D.sl true 4 (List.map (TValue.e false) t.Keys), D.sl true 4 (List.map (TValue.e false) t.Vals), D.int .i64 t.Default.Kind, D.int .i64 t.Default.Num, D.str t.Default.Text, D.int .i64 t.Default.Ref], Z, Z, Z, Z, Z, Z, Z, Z, Z, Z, Z, Z, Z, Z, Z, Z, Z, Z, Z, Z, Z, Z, Z, Z, Z, Z, Z, Z, Z, Z, Z, Z, Z, Z, Z, Z, Z, Z, Z, Z, Z, Z, Z, Z, Z, Z, Z, Z, Z, Z, Z, Z, Z, Z, Z, Z, Z, Z, Z, Z, Z], []⟩
theorem p_i_NewRecord_l1 (s1 : ByteArray) (s2 : List ByteArray) (s3 : List TValue) (s4 : THeap) (s8 : THeap) (s9 : TValue) (s44 : List ByteArray) (s45 : Int) : ∀ (s13 : TObject) (s46 : Int) (k : List Fr), Le (q_i_NewRecord_l1 s1 s2 s3 s4 s8 s9 s44 s45 k) (i_NewRecord_l1 s1 s2 s3 s4 s8 s9 s44 s45 s13 s46) (x_i_NewRecord_l1 s1 s2 s3 s4 s8 s9 s44 s45 s13 s46 k) := by
  intro s13 s46 k
  refine Le.cp (X := x_i_NewRecord_l1 s1 s2 s3 s4 s8 s9 s44 s45 s13 s46) (Q := q_i_NewRecord_l1 s1 s2 s3 s4 s8 s9 s44 s45) ?_ k
  refine i_NewRecord_l1.partial_correctness s1 s2 s3 s4 s8 s9 s44 s45 (motive := fun s13 s46 r => ∀ k : List Fr, q_i_NewRecord_l1 s1 s2 s3 s4 s8 s9 s44 s45 k r (x_i_NewRecord_l1 s1 s2 s3 s4 s8 s9 s44 s45 s13 s46 k)) ?_ s13 s46
  intro rec hrec s13 s46
  refine Le.pc ?_
  intro k
  unfold x_i_NewRecord_l1 v39_m1
  try conv => arg 3; simp (maxSteps := 999999) only [sx, ty, ↓reduceIte, reduceCtorEq, Nat.reduceAdd, Nat.reduceSub, Nat.reduceLeDiff, Nat.reduceEqDiff, Nat.reduceLT, Nat.reduceMul, Nat.reduceBNe, List.reduceReplicate, Int.reduceLE, Int.reduceLT, Int.reduceEq, Int.reduceToNat, Int.reduceNeg, *, w39_1]
  refine Le.itq (fun h => ?_) (fun h => ?_)
  · try conv => arg 3; simp (maxSteps := 999999) only [sx, ty, ↓reduceIte, reduceCtorEq, Nat.reduceAdd, Nat.reduceSub, Nat.reduceLeDiff, Nat.reduceEqDiff, Nat.reduceLT, Nat.reduceMul, Nat.reduceBNe, List.reduceReplicate, Int.reduceLE, Int.reduceLT, Int.reduceEq, Int.reduceToNat, Int.reduceNeg, *, w39_1]
    refine Le.idx fun a49 h_1 h_2 h_3 => ?_
    try conv => arg 3; simp (maxSteps := 999999) only [sx, ty, ↓reduceIte, reduceCtorEq, Nat.reduceAdd, Nat.reduceSub, Nat.reduceLeDiff, Nat.reduceEqDiff, Nat.reduceLT, Nat.reduceMul, Nat.reduceBNe, List.reduceReplicate, Int.reduceLE, Int.reduceLT, Int.reduceEq, Int.reduceToNat, Int.reduceNeg, *, w39_1]
    refine Le.dcall (g_i_textOf a49) fun r54 h_4 _ hy => ?_
    obtain ⟨_, rfl⟩ := hy
    try conv => arg 3; simp (maxSteps := 999999) only [sx, ty, ↓reduceIte, reduceCtorEq, Nat.reduceAdd, Nat.reduceSub, Nat.reduceLeDiff, Nat.reduceEqDiff, Nat.reduceLT, Nat.reduceMul, Nat.reduceBNe, List.reduceReplicate, Int.reduceLE, Int.reduceLT, Int.reduceEq, Int.reduceToNat, Int.reduceNeg, *, w39_1]
    refine Le.app fun c56 h_5 h_6 => ?_
    replace h_5 : List.map (TValue.e false) s13.Keys ++ [D.agg [D.int .i64 r54.Kind, D.int .i64 r54.Num, D.str r54.Text, D.int .i64 r54.Ref]] = List.map (TValue.e false) c56 := by rw [h_5, List.map_append] <;> rfl
    replace h_6 : s13.Keys.length + 1 ≤ most := h_6
    try conv => arg 3; simp (maxSteps := 999999) only [sx, ty, ↓reduceIte, reduceCtorEq, Nat.reduceAdd, Nat.reduceSub, Nat.reduceLeDiff, Nat.reduceEqDiff, Nat.reduceLT, Nat.reduceMul, Nat.reduceBNe, List.reduceReplicate, Int.reduceLE, Int.reduceLT, Int.reduceEq, Int.reduceToNat, Int.reduceNeg, *, w39_1]
    refine Le.itq (fun h_7 => ?_) (fun h_7 => ?_)
    · try conv => arg 3; simp (maxSteps := 999999) only [sx, ty, ↓reduceIte, reduceCtorEq, Nat.reduceAdd, Nat.reduceSub, Nat.reduceLeDiff, Nat.reduceEqDiff, Nat.reduceLT, Nat.reduceMul, Nat.reduceBNe, List.reduceReplicate, Int.reduceLE, Int.reduceLT, Int.reduceEq, Int.reduceToNat, Int.reduceNeg, *, w39_1]
      refine Le.dcall (g_i_null) fun r64 h_8 _ hy => ?_
      obtain ⟨_, rfl⟩ := hy
      try conv => arg 3; simp (maxSteps := 999999) only [sx, ty, ↓reduceIte, reduceCtorEq, Nat.reduceAdd, Nat.reduceSub, Nat.reduceLeDiff, Nat.reduceEqDiff, Nat.reduceLT, Nat.reduceMul, Nat.reduceBNe, List.reduceReplicate, Int.reduceLE, Int.reduceLT, Int.reduceEq, Int.reduceToNat, Int.reduceNeg, *, w39_1]
      refine Le.app fun c66 h_9 h_10 => ?_
      replace h_9 : List.map (TValue.e false) s13.Vals ++ [D.agg [D.int .i64 r64.Kind, D.int .i64 r64.Num, D.str r64.Text, D.int .i64 r64.Ref]] = List.map (TValue.e false) c66 := by rw [h_9, List.map_append] <;> rfl
      replace h_10 : s13.Vals.length + 1 ≤ most := h_10
      try conv => arg 3; simp (maxSteps := 999999) only [sx, ty, ↓reduceIte, reduceCtorEq, Nat.reduceAdd, Nat.reduceSub, Nat.reduceLeDiff, Nat.reduceEqDiff, Nat.reduceLT, Nat.reduceMul, Nat.reduceBNe, List.reduceReplicate, Int.reduceLE, Int.reduceLT, Int.reduceEq, Int.reduceToNat, Int.reduceNeg, *, w39_1]
      exact fun r hr => hrec _ _ r hr k
    · try conv => arg 3; simp (maxSteps := 999999) only [sx, ty, ↓reduceIte, reduceCtorEq, Nat.reduceAdd, Nat.reduceSub, Nat.reduceLeDiff, Nat.reduceEqDiff, Nat.reduceLT, Nat.reduceMul, Nat.reduceBNe, List.reduceReplicate, Int.reduceLE, Int.reduceLT, Int.reduceEq, Int.reduceToNat, Int.reduceNeg, *, w39_1]
      exact fun r hr => hrec _ _ r hr k
  · try conv => arg 3; simp (maxSteps := 999999) only [sx, ty, ↓reduceIte, reduceCtorEq, Nat.reduceAdd, Nat.reduceSub, Nat.reduceLeDiff, Nat.reduceEqDiff, Nat.reduceLT, Nat.reduceMul, Nat.reduceBNe, List.reduceReplicate, Int.reduceLE, Int.reduceLT, Int.reduceEq, Int.reduceToNat, Int.reduceNeg, *, w39_1]
    ((with_reducible refine Le.ret ?_); first | exact rfl | exact Pu.mk)
noncomputable abbrev x_i_NewRecord_j1 (s1 : ByteArray) (s2 : List ByteArray) (s3 : List TValue) (s4 : THeap) (s8 : THeap) (s9 : TValue) (s11 : Bool) (k : List Fr) : Option Res := go T (enF [.cell 8 (.many 2), .cell 9 (.many 4), .tmp 10] []) v39_j1 k ⟨[Z, .d (D.str s1), .d (D.sl false 1 (List.map D.str s2)), .d (D.sl false 4 (List.map (TValue.e false) s3)), .box [D.int .i64 s4.Next, D.sl false 10 (List.map (TObject.e false) s4.Objects)], Z, Z, Z, .box [D.int .i64 s8.Next, D.sl true 10 (List.map (TObject.e true) s8.Objects)], .box [D.int .i64 s9.Kind, D.int .i64 s9.Num, D.str s9.Text, D.int .i64 s9.Ref], Z, .d (D.bool s11), Z, Z, Z, Z, Z, Z, Z, Z, Z, Z, Z, Z, Z, Z, Z, Z, Z, Z, Z, Z, Z, Z, Z, Z, Z, Z, Z, Z, Z, Z, Z, Z, Z, Z, Z, Z, Z, Z, Z, Z, Z, Z, Z, Z, Z, Z, Z, Z, Z, Z, Z, Z, Z, Z, Z, Z, Z, Z, Z, Z, Z, Z, Z], []⟩
noncomputable abbrev q_i_NewRecord_j1 (s1 : ByteArray) (s2 : List ByteArray) (s3 : List TValue) (s4 : THeap) (s8 : THeap) (s9 : TValue) (s11 : Bool) (k : List Fr) (t : (THeap × TValue × Int)) (x : Option Res) : Prop := Pu (D.tup [D.agg [D.int .i64 t.1.Next, D.sl true 10 (List.map (TObject.e true) t.1.Objects)], D.agg [D.int .i64 t.2.1.Kind, D.int .i64 t.2.1.Num, D.str t.2.1.Text, D.int .i64 t.2.1.Ref], D.int .i64 t.2.2]) [] x
theorem p_i_NewRecord_j1 (s1 : ByteArray) (s2 : List ByteArray) (s3 : List TValue) (s4 : THeap) (s8 : THeap) (s9 : TValue) (s11 : Bool) (k : List Fr) : Le (q_i_NewRecord_j1 s1 s2 s3 s4 s8 s9 s11 k) (i_NewRecord_j1 s1 s2 s3 s4 s8 s9 s11) (x_i_NewRecord_j1 s1 s2 s3 s4 s8 s9 s11 k) := by
  unfold i_NewRecord_j1 x_i_NewRecord_j1 v39_j1
  repeat' (try conv => arg 3; simp (maxSteps := 999999) only [sx, ty, ↓reduceIte, reduceCtorEq, Nat.reduceAdd, Nat.reduceSub, Nat.reduceLeDiff, Nat.reduceEqDiff, Nat.reduceLT, Nat.reduceMul, Nat.reduceBNe, List.reduceReplicate, Int.reduceLE, Int.reduceLT, Int.reduceEq, Int.reduceToNat, Int.reduceNeg, *, w39_1]); first
    | (refine Le.call (g_i_fitAll _ _) fun _ _ _ hy => ?_; obtain ⟨_, rfl⟩ := hy)
    | (refine Le.call (g_i_unless _ _) fun _ _ _ hy => ?_; obtain ⟨_, rfl⟩ := hy)
    | (refine Le.call (g_i_first _) fun _ _ _ hy => ?_; obtain ⟨_, rfl⟩ := hy)
    | (refine Le.call (g_slices_Clone_Value_Value _) fun _ _ _ hy => ?_; obtain ⟨_, rfl⟩ := hy)
    | (refine Le.via (p_i_NewRecord_l1 _ _ _ _ _ _ _ _ _ _ _) fun _ _ _ hy => ?_; try dsimp only [q_i_NewRecord_l1] at hy; first | subst hy | obtain ⟨_, rfl⟩ := hy)
    | (refine Le.call (g_i_Heap_create _ _) fun _ _ _ hy => ?_; obtain ⟨_, rfl⟩ := hy)
    | ((with_reducible refine Le.ret ?_); first | exact rfl | exact Pu.mk)
    | with_reducible refine Le.itq (fun _ => ?_) (fun _ => ?_)
theorem g_i_NewRecord (p0 : THeap) (p1 : ByteArray) (p2 : List ByteArray) (p3 : List TValue) : Le (fun r x => Pu (D.tup [D.agg [D.int .i64 r.1.Next, D.sl true 10 (List.map (TObject.e true) r.1.Objects)], D.agg [D.int .i64 r.2.1.Kind, D.int .i64 r.2.1.Num, D.str r.2.1.Text, D.int .i64 r.2.1.Ref], D.int .i64 r.2.2]) [] x) (i_NewRecord p0 p1 p2 p3) (vcall T 39 [D.agg [D.int .i64 p0.Next, D.sl false 10 (List.map (TObject.e false) p0.Objects)], D.str p1, D.sl false 1 (List.map D.str p2), D.sl false 4 (List.map (TValue.e false) p3)] []) := by
  unfold i_NewRecord
  refine Le.enter (g := v39) rfl rfl rfl rfl ?_
  repeat' (try conv => arg 3; simp (maxSteps := 999999) only [sx, ty, ↓reduceIte, reduceCtorEq, Nat.reduceAdd, Nat.reduceSub, Nat.reduceLeDiff, Nat.reduceEqDiff, Nat.reduceLT, Nat.reduceMul, Nat.reduceBNe, List.reduceReplicate, Int.reduceLE, Int.reduceLT, Int.reduceEq, Int.reduceToNat, Int.reduceNeg, *, w39_1, v39, v39_b]); first
    | (refine Le.call (g_i_IsName _) fun _ _ _ hy => ?_; obtain ⟨_, rfl⟩ := hy)
    | (refine Le.call (g_i_areFields _) fun _ _ _ hy => ?_; obtain ⟨_, rfl⟩ := hy)
    | exact p_i_NewRecord_j1 _ _ _ _ _ _ _ _
    | with_reducible refine Le.bool (fun _ => ?_) (fun _ => ?_)
    | ((with_reducible refine Le.ret ?_); first | exact rfl | exact Pu.mk)
end Go.Vx.NrZ
