/-
  The laws' own functions: mark.
-/
import Derived.Test.YthfkpkfcnnhkeaaGreatTypes
import Derived.Test.YthfkpkfcnnhkeaaGreatCode
set_option linter.unusedVariables false
set_option linter.unusedSimpArgs false
namespace Go.Vx.NrZ
set_option linter.unusedVariables false
set_option linter.unusedSimpArgs false
set_option maxRecDepth 4000
set_option maxHeartbeats 4000000
theorem l_markText {R : Type} (e : En R) (sto : List (List D)) (k : List Fr) : ∀ (f q : Nat) (acc : ByteArray), q ≤ f → acc.size + q ≤ 4611686018427387904 →
    go T e v81_m1 (.lp v81_l1 :: .bl 0 :: .sq (.clr [2,4,5,6,7,8,9,10,11,12,13,14,15,16,17]) :: k) ⟨[.d (.int .i64 q), Z, Z, .d (.str acc), Z, Z, Z, Z, Z, Z, Z, Z, Z, Z, Z, Z, Z, Z, Z, Z], sto⟩ = bk T e k ⟨[.d (.int .i64 0), Z, Z, .d (.str (digs f q acc)), Z, Z, Z, Z, Z, Z, Z, Z, Z, Z, Z, Z, Z, Z, Z, Z], sto⟩ := by
  intro f
  induction f with
  | zero =>
    intro q acc h1 h2
    obtain rfl : q = 0 := by omega
    unfold v81_m1
    simp (maxSteps := 9999999) (disch := omega) only [vx, px, ty, ↓reduceIte, Bool.false_eq_true, reduceCtorEq, Nat.reduceAdd, Nat.reduceSub, Nat.reduceLeDiff, Nat.reduceEqDiff, Nat.reduceLT, Nat.reduceMul, List.reduceReplicate, and_true, true_and, and_false, false_and, and_self, or_true, true_or, or_false, false_or, not_true_eq_false, not_false_eq_true, ne_eq, w81_1, digs]
    rfl
  | succ f ih =>
    intro q acc h1 h2
    by_cases hq : q = 0
    · subst hq
      unfold v81_m1
      simp (maxSteps := 9999999) (disch := omega) only [vx, px, ty, ↓reduceIte, Bool.false_eq_true, reduceCtorEq, Nat.reduceAdd, Nat.reduceSub, Nat.reduceLeDiff, Nat.reduceEqDiff, Nat.reduceLT, Nat.reduceMul, List.reduceReplicate, and_true, true_and, and_false, false_and, and_self, or_true, true_or, or_false, false_or, not_true_eq_false, not_false_eq_true, ne_eq, w81_1, digs]
      rfl
    · have e1 : ((q : Int)).tmod 10 = ((q % 10 : Nat) : Int) := rfl
      have e2 : ((q : Int)).tdiv 10 = ((q / 10 : Nat) : Int) := rfl
      have e3 : IntKind.wrap .u8 (48 + ((q % 10 : Nat) : Int)) = ((48 + q % 10 : Nat) : Int) := by
        simp only [IntKind.wrap, IntKind.signed, IntKind.bits]; simp; omega
      have e4 : (((48 + q % 10 : Nat) : Int)).toNat.toUInt8 = (48 + q % 10).toUInt8 := by rw [Int.toNat_natCast]
      have e5 : ((⟨#[(48 + q % 10).toUInt8]⟩ : ByteArray)).size = 1 := rfl
      have e6 : (⟨#[(48 + q % 10).toUInt8]⟩ : ByteArray).size + acc.size ≤ maxInt := by rw [e5]; unfold maxInt; omega
      have e7 : (⟨#[(48 + q % 10).toUInt8]⟩ ++ acc : ByteArray).size = 1 + acc.size := by rw [ByteArray.size_append]; rfl
      have h := ih (q / 10) (⟨#[(48 + q % 10).toUInt8]⟩ ++ acc) (by omega) (by rw [e7]; omega)
      unfold v81_m1
      simp (maxSteps := 9999999) (disch := omega) only [vx, px, ty, ↓reduceIte, Bool.false_eq_true, reduceCtorEq, Nat.reduceAdd, Nat.reduceSub, Nat.reduceLeDiff, Nat.reduceEqDiff, Nat.reduceLT, Nat.reduceMul, List.reduceReplicate, and_true, true_and, and_false, false_and, and_self, or_true, true_or, or_false, false_or, not_true_eq_false, not_false_eq_true, ne_eq, w81_1, digs, e1, e2, e3, hq, dbytes, e4, e6, ifF, ifT]
      exact h
theorem c_markText (k : Int) (sto : List (List D)) (h : 0 ≤ k) (h2 : k ≤ 1099511627776) : vcall T 81 [.int .i64 k] sto = some (.str (mt k), [], sto) := by
  by_cases hk : k ≤ 0
  · obtain rfl : k = 0 := by omega
    rw [vcall_go T (g := v81) rfl rfl rfl _ _ rfl]
    simp (maxSteps := 9999999) (disch := omega) only [vx, px, ty, ↓reduceIte, Bool.false_eq_true, reduceCtorEq, Nat.reduceAdd, Nat.reduceSub, Nat.reduceLeDiff, Nat.reduceEqDiff, Nat.reduceLT, Nat.reduceMul, List.reduceReplicate, and_true, true_and, and_false, false_and, and_self, or_true, true_or, or_false, false_or, not_true_eq_false, not_false_eq_true, ne_eq, v81, v81_b, w81_1]
    rfl
  · have hl := fun kk => l_markText (enF [.tmp 2] []) sto kk k.toNat k.toNat ⟨#[]⟩ (Nat.le_refl _) (by have : (⟨#[]⟩ : ByteArray).size = 0 := rfl; omega)
    have ek : ((k.toNat : Nat) : Int) = k := by omega
    rw [ek] at hl
    have hd : ∀ (f q : Nat) (acc : ByteArray), q ≤ f → (digs f q acc).size ≤ acc.size + q := by
      intro f
      induction f with
      | zero => intro q acc _; simp [digs]
      | succ f ih =>
        intro q acc hq
        simp only [digs]
        split
        · omega
        · rename_i hne
          have := ih (q / 10) (⟨#[(48 + q % 10).toUInt8]⟩ ++ acc) (by omega)
          have e7 : (⟨#[(48 + q % 10).toUInt8]⟩ ++ acc : ByteArray).size = 1 + acc.size := by rw [ByteArray.size_append]; rfl
          omega
    have hs := hd k.toNat k.toNat ⟨#[]⟩ (Nat.le_refl _)
    have hz : (⟨#[]⟩ : ByteArray).size = 0 := rfl
    have hm : (⟨#[109]⟩ : ByteArray).size + (digs k.toNat k.toNat ⟨#[]⟩).size ≤ maxInt := by
      have : (⟨#[109]⟩ : ByteArray).size = 1 := rfl
      rw [this]; unfold maxInt; omega
    rw [vcall_go T (g := v81) rfl rfl rfl _ _ rfl]
    simp (maxSteps := 9999999) (disch := omega) only [vx, px, ty, ↓reduceIte, Bool.false_eq_true, reduceCtorEq, Nat.reduceAdd, Nat.reduceSub, Nat.reduceLeDiff, Nat.reduceEqDiff, Nat.reduceLT, Nat.reduceMul, List.reduceReplicate, and_true, true_and, and_false, false_and, and_self, or_true, true_or, or_false, false_or, not_true_eq_false, not_false_eq_true, ne_eq, v81, v81_b, w81_1]
    rw [hl]
    simp (maxSteps := 9999999) (disch := omega) only [vx, px, ty, ↓reduceIte, Bool.false_eq_true, reduceCtorEq, Nat.reduceAdd, Nat.reduceSub, Nat.reduceLeDiff, Nat.reduceEqDiff, Nat.reduceLT, Nat.reduceMul, List.reduceReplicate, and_true, true_and, and_false, false_and, and_self, or_true, true_or, or_false, false_or, not_true_eq_false, not_false_eq_true, ne_eq, hm, mt, hk, ifF]
theorem l_markStringS {R : Type} (e : En R) (sto : List (List D)) (k : List Fr) : ∀ (rest pre : List ByteArray) (i q : Int), i = pre.length → pre.length + rest.length ≤ 34359738368 → lsum ByteArray.size rest ≤ 34359738368 → 0 ≤ q → q + ((lsum (fun _ => 1) rest : Nat) : Int) ≤ 1099511627776 →
    go T e v21_m1 (.lp v21_l1 :: .bl 0 :: .sq (.clr [4,5,6,7,8,9,10,11,12,13,14,15,16,17,18]) :: k) ⟨[.d (.sl true 1 (pre.map D.str ++ rest.map D.str)), .d (.int .i64 q), Z, Z, Z, .d (.int .i64 i), Z, Z, Z, Z, Z, Z, Z, Z, Z, Z, Z, Z, Z, Z], sto⟩ = bk T e k ⟨[.d (.sl true 1 (pre.map D.str ++ (mkL (fun _ k => mt k) (fun _ k => k + 1) rest q).map D.str)), .d (.int .i64 (foldn (fun _ k => k + 1) rest q)), Z, Z, Z, Z, Z, Z, Z, Z, Z, Z, Z, Z, Z, Z, Z, Z, Z, Z], sto⟩ := by
  intro rest
  induction rest with
  | nil =>
    intro pre i q hi h1 h2 h3 h4
    have ht : i.toNat = pre.length := by omega
    unfold v21_m1
    simp (maxSteps := 9999999) (disch := omega) only [vx, px, ty, ↓reduceIte, Bool.false_eq_true, reduceCtorEq, Nat.reduceAdd, Nat.reduceSub, Nat.reduceLeDiff, Nat.reduceEqDiff, Nat.reduceLT, Nat.reduceMul, List.reduceReplicate, and_true, true_and, and_false, false_and, and_self, or_true, true_or, or_false, false_or, not_true_eq_false, not_false_eq_true, ne_eq, w21_1, mkL, foldn]
  | cons x rest ih =>
    intro pre i q hi h1 h2 h3 h4
    have ht : i.toNat = pre.length := by omega
    simp only [lsum_cons] at h2 h4
    rw [List.length_cons] at h1
    have h := ih (pre ++ [mt q]) (i + 1) (q + 1) (by simp; omega) (by simp; omega) (by omega) (by omega) (by omega)
    simp only [map_snoc] at h
    simp only [mkL, foldn, List.map_cons]
    unfold v21_m1
    simp (maxSteps := 9999999) (disch := omega) only [vx, px, ty, ↓reduceIte, Bool.false_eq_true, reduceCtorEq, Nat.reduceAdd, Nat.reduceSub, Nat.reduceLeDiff, Nat.reduceEqDiff, Nat.reduceLT, Nat.reduceMul, List.reduceReplicate, and_true, true_and, and_false, false_and, and_self, or_true, true_or, or_false, false_or, not_true_eq_false, not_false_eq_true, ne_eq, vxd, Nat.reduceBNe, w21_1, ht, ifT, c_markText]
    exact h
theorem c_markStringS (xs : List ByteArray) (q : Int) (sto : List (List D)) (h : xs.length ≤ 34359738368) (h2 : lsum ByteArray.size xs ≤ 34359738368) (h3 : 0 ≤ q) (h4 : q + ((lsum (fun _ => 1) xs : Nat) : Int) ≤ 1099511627776) : vcall T 21 [.sl true 1 (xs.map D.str), .int .i64 q] sto = some (.int .i64 (foldn (fun _ k => k + 1) xs q), [.sl true 1 ((mkL (fun _ k => mt k) (fun _ k => k + 1) xs q).map D.str)], sto) := by
  rw [vcall_go T (g := v21) rfl rfl rfl _ _ rfl]
  simp (maxSteps := 9999999) (disch := omega) only [vx, px, ty, ↓reduceIte, Bool.false_eq_true, reduceCtorEq, Nat.reduceAdd, Nat.reduceSub, Nat.reduceLeDiff, Nat.reduceEqDiff, Nat.reduceLT, Nat.reduceMul, List.reduceReplicate, and_true, true_and, and_false, false_and, and_self, or_true, true_or, or_false, false_or, not_true_eq_false, not_false_eq_true, ne_eq, v21, v21_b, w21_1]
  have hl := fun k => l_markStringS (enF [.tmp 4] [0]) sto k xs [] 0 q rfl (by simp; omega) h2 h3 h4
  simp only [List.map_nil, List.nil_append] at hl
  rw [hl]
  simp (maxSteps := 9999999) (disch := omega) only [vx, px, ty, ↓reduceIte, Bool.false_eq_true, reduceCtorEq, Nat.reduceAdd, Nat.reduceSub, Nat.reduceLeDiff, Nat.reduceEqDiff, Nat.reduceLT, Nat.reduceMul, List.reduceReplicate, and_true, true_and, and_false, false_and, and_self, or_true, true_or, or_false, false_or, not_true_eq_false, not_false_eq_true, ne_eq]
theorem l_markValueS {R : Type} (e : En R) (sto : List (List D)) (k : List Fr) : ∀ (rest pre : List TValue) (i q : Int), i = pre.length → pre.length + rest.length ≤ 34359738368 → lsum TValue.n rest ≤ 34359738368 → 0 ≤ q → q + ((lsum TValue.m rest : Nat) : Int) ≤ 1099511627776 →
    go T e v34_m1 (.lp v34_l1 :: .bl 0 :: .sq (.clr [4,5,6,7,8,9,10,11,12,13,14,15,16,17,18,19,20,21,22,23,24,25,26,27,28,29,30,31,32,33,34,35,36,37,38,39,40]) :: k) ⟨[.d (.sl true 4 (pre.map (TValue.e false) ++ rest.map (TValue.e false))), .d (.int .i64 q), Z, Z, Z, .d (.int .i64 i), Z, Z, Z, Z, Z, Z, Z, Z, Z, Z, Z, Z, Z, Z, Z, Z, Z, Z, Z, Z, Z, Z, Z, Z, Z, Z, Z, Z, Z, Z, Z, Z, Z, Z, Z, Z], sto⟩ = bk T e k ⟨[.d (.sl true 4 (pre.map (TValue.e false) ++ (mkL TValue.mk_ TValue.nx rest q).map (TValue.e false))), .d (.int .i64 (foldn TValue.nx rest q)), Z, Z, Z, Z, Z, Z, Z, Z, Z, Z, Z, Z, Z, Z, Z, Z, Z, Z, Z, Z, Z, Z, Z, Z, Z, Z, Z, Z, Z, Z, Z, Z, Z, Z, Z, Z, Z, Z, Z, Z], sto⟩ := by
  intro rest
  induction rest with
  | nil =>
    intro pre i q hi h1 h2 h3 h4
    have ht : i.toNat = pre.length := by omega
    unfold v34_m1
    simp (maxSteps := 9999999) (disch := omega) only [vx, px, ty, ↓reduceIte, Bool.false_eq_true, reduceCtorEq, Nat.reduceAdd, Nat.reduceSub, Nat.reduceLeDiff, Nat.reduceEqDiff, Nat.reduceLT, Nat.reduceMul, List.reduceReplicate, and_true, true_and, and_false, false_and, and_self, or_true, true_or, or_false, false_or, not_true_eq_false, not_false_eq_true, ne_eq, w34_1, mkL, foldn]
  | cons x rest ih =>
    intro pre i q hi h1 h2 h3 h4
    have ht : i.toNat = pre.length := by omega
    simp only [lsum_cons, TValue.m, TValue.n] at h2 h4
    rw [List.length_cons] at h1
    have hnx := TValue.nxm x q
    have h := ih (pre ++ [TValue.mk_ x q]) (i + 1) (TValue.nx x q) (by simp; omega) (by simp; omega) (by omega) (by omega) (by simp only [hnx, TValue.m]; omega)
    simp only [map_snoc] at h
    simp only [mkL, foldn, List.map_cons]
    unfold v34_m1
    simp (maxSteps := 9999999) (disch := omega) only [vx, px, ty, ↓reduceIte, Bool.false_eq_true, reduceCtorEq, Nat.reduceAdd, Nat.reduceSub, Nat.reduceLeDiff, Nat.reduceEqDiff, Nat.reduceLT, Nat.reduceMul, List.reduceReplicate, and_true, true_and, and_false, false_and, and_self, or_true, true_or, or_false, false_or, not_true_eq_false, not_false_eq_true, ne_eq, vxd, Nat.reduceBNe, w34_1, ht, ifT, c_markText]
    exact h
theorem c_markValueS (xs : List TValue) (q : Int) (sto : List (List D)) (h : xs.length ≤ 34359738368) (h2 : lsum TValue.n xs ≤ 34359738368) (h3 : 0 ≤ q) (h4 : q + ((lsum TValue.m xs : Nat) : Int) ≤ 1099511627776) : vcall T 34 [.sl true 4 (xs.map (TValue.e false)), .int .i64 q] sto = some (.int .i64 (foldn TValue.nx xs q), [.sl true 4 ((mkL TValue.mk_ TValue.nx xs q).map (TValue.e false))], sto) := by
  rw [vcall_go T (g := v34) rfl rfl rfl _ _ rfl]
  simp (maxSteps := 9999999) (disch := omega) only [vx, px, ty, ↓reduceIte, Bool.false_eq_true, reduceCtorEq, Nat.reduceAdd, Nat.reduceSub, Nat.reduceLeDiff, Nat.reduceEqDiff, Nat.reduceLT, Nat.reduceMul, List.reduceReplicate, and_true, true_and, and_false, false_and, and_self, or_true, true_or, or_false, false_or, not_true_eq_false, not_false_eq_true, ne_eq, v34, v34_b, w34_1]
  have hl := fun k => l_markValueS (enF [.tmp 4] [0]) sto k xs [] 0 q rfl (by simp; omega) h2 h3 h4
  simp only [List.map_nil, List.nil_append] at hl
  rw [hl]
  simp (maxSteps := 9999999) (disch := omega) only [vx, px, ty, ↓reduceIte, Bool.false_eq_true, reduceCtorEq, Nat.reduceAdd, Nat.reduceSub, Nat.reduceLeDiff, Nat.reduceEqDiff, Nat.reduceLT, Nat.reduceMul, List.reduceReplicate, and_true, true_and, and_false, false_and, and_self, or_true, true_or, or_false, false_or, not_true_eq_false, not_false_eq_true, ne_eq]
theorem l_markObjectS {R : Type} (e : En R) (sto : List (List D)) (k : List Fr) : ∀ (rest pre : List TObject) (i q : Int), i = pre.length → pre.length + rest.length ≤ 34359738368 → lsum TObject.n rest ≤ 34359738368 → 0 ≤ q → q + ((lsum TObject.m rest : Nat) : Int) ≤ 1099511627776 →
    go T e v106_m1 (.lp v106_l1 :: .bl 0 :: .sq (.clr [4,5,6,7,8,9,10,11,12,13,14,15,16,17,18,19,20,21,22,23,24,25,26,27,28,29,30,31,32,33,34,35,36,37,38,39,40,41,42,43,44,45,46,47,48,49,50,51,52,53,54,55,56,57,58,59,60,61,62,63,64,65,66,67,68,69,70,71,72,73,74,75,76,77,78,79,80,81,82,83,84,85,86,87]) :: k) ⟨[.d (.sl true 10 (pre.map (TObject.e true) ++ rest.map (TObject.e true))), .d (.int .i64 q), Z, Z, Z, .d (.int .i64 i), Z, Z, Z, Z, Z, Z, Z, Z, Z, Z, Z, Z, Z, Z, Z, Z, Z, Z, Z, Z, Z, Z, Z, Z, Z, Z, Z, Z, Z, Z, Z, Z, Z, Z, Z, Z, Z, Z, Z, Z, Z, Z, Z, Z, Z, Z, Z, Z, Z, Z, Z, Z, Z, Z, Z, Z, Z, Z, Z, Z, Z, Z, Z, Z, Z, Z, Z, Z, Z, Z, Z, Z, Z, Z, Z, Z, Z, Z, Z, Z, Z, Z, Z], sto⟩ = bk T e k ⟨[.d (.sl true 10 (pre.map (TObject.e true) ++ (mkL TObject.mk_ TObject.nx rest q).map (TObject.e true))), .d (.int .i64 (foldn TObject.nx rest q)), Z, Z, Z, Z, Z, Z, Z, Z, Z, Z, Z, Z, Z, Z, Z, Z, Z, Z, Z, Z, Z, Z, Z, Z, Z, Z, Z, Z, Z, Z, Z, Z, Z, Z, Z, Z, Z, Z, Z, Z, Z, Z, Z, Z, Z, Z, Z, Z, Z, Z, Z, Z, Z, Z, Z, Z, Z, Z, Z, Z, Z, Z, Z, Z, Z, Z, Z, Z, Z, Z, Z, Z, Z, Z, Z, Z, Z, Z, Z, Z, Z, Z, Z, Z, Z, Z, Z], sto⟩ := by
  intro rest
  induction rest with
  | nil =>
    intro pre i q hi h1 h2 h3 h4
    have ht : i.toNat = pre.length := by omega
    unfold v106_m1
    simp (maxSteps := 9999999) (disch := omega) only [vx, px, ty, ↓reduceIte, Bool.false_eq_true, reduceCtorEq, Nat.reduceAdd, Nat.reduceSub, Nat.reduceLeDiff, Nat.reduceEqDiff, Nat.reduceLT, Nat.reduceMul, List.reduceReplicate, and_true, true_and, and_false, false_and, and_self, or_true, true_or, or_false, false_or, not_true_eq_false, not_false_eq_true, ne_eq, w106_1, mkL, foldn]
  | cons x rest ih =>
    intro pre i q hi h1 h2 h3 h4
    have ht : i.toNat = pre.length := by omega
    simp only [lsum_cons, TObject.m, TObject.n, TValue.m, TValue.n] at h2 h4
    rw [List.length_cons] at h1
    have hf0 := foldn_m TValue.nxm x.Keys (q + 1 + 1 + 1 + 1)
    have hf1 := foldn_m TValue.nxm x.Vals (foldn TValue.nx x.Keys (q + 1 + 1 + 1 + 1))
    have hnx := TObject.nxm x q
    have h := ih (pre ++ [TObject.mk_ x q]) (i + 1) (TObject.nx x q) (by simp; omega) (by simp; omega) (by omega) (by omega) (by simp only [hnx, TObject.m, TValue.m, TValue.n]; omega)
    simp only [map_snoc] at h
    simp only [mkL, foldn, List.map_cons]
    unfold v106_m1
    simp (maxSteps := 9999999) (disch := omega) only [vx, px, ty, ↓reduceIte, Bool.false_eq_true, reduceCtorEq, Nat.reduceAdd, Nat.reduceSub, Nat.reduceLeDiff, Nat.reduceEqDiff, Nat.reduceLT, Nat.reduceMul, List.reduceReplicate, and_true, true_and, and_false, false_and, and_self, or_true, true_or, or_false, false_or, not_true_eq_false, not_false_eq_true, ne_eq, vxd, Nat.reduceBNe, w106_1, ht, ifT, c_markText, c_markValueS]
    exact h
theorem c_markObjectS (xs : List TObject) (q : Int) (sto : List (List D)) (h : xs.length ≤ 34359738368) (h2 : lsum TObject.n xs ≤ 34359738368) (h3 : 0 ≤ q) (h4 : q + ((lsum TObject.m xs : Nat) : Int) ≤ 1099511627776) : vcall T 106 [.sl true 10 (xs.map (TObject.e true)), .int .i64 q] sto = some (.int .i64 (foldn TObject.nx xs q), [.sl true 10 ((mkL TObject.mk_ TObject.nx xs q).map (TObject.e true))], sto) := by
  rw [vcall_go T (g := v106) rfl rfl rfl _ _ rfl]
  simp (maxSteps := 9999999) (disch := omega) only [vx, px, ty, ↓reduceIte, Bool.false_eq_true, reduceCtorEq, Nat.reduceAdd, Nat.reduceSub, Nat.reduceLeDiff, Nat.reduceEqDiff, Nat.reduceLT, Nat.reduceMul, List.reduceReplicate, and_true, true_and, and_false, false_and, and_self, or_true, true_or, or_false, false_or, not_true_eq_false, not_false_eq_true, ne_eq, v106, v106_b, w106_1]
  have hl := fun k => l_markObjectS (enF [.tmp 4] [0]) sto k xs [] 0 q rfl (by simp; omega) h2 h3 h4
  simp only [List.map_nil, List.nil_append] at hl
  rw [hl]
  simp (maxSteps := 9999999) (disch := omega) only [vx, px, ty, ↓reduceIte, Bool.false_eq_true, reduceCtorEq, Nat.reduceAdd, Nat.reduceSub, Nat.reduceLeDiff, Nat.reduceEqDiff, Nat.reduceLT, Nat.reduceMul, List.reduceReplicate, and_true, true_and, and_false, false_and, and_self, or_true, true_or, or_false, false_or, not_true_eq_false, not_false_eq_true, ne_eq]
theorem c_markHeap (x : THeap) (q : Int) (sto : List (List D)) (h : THeap.n x ≤ 34359738368) (h3 : 0 ≤ q) (h4 : q + ((lsum TObject.m x.Objects : Nat) : Int) ≤ 1099511627776) : vcall T 42 [D.agg [D.int .i64 x.Next, D.sl true 10 (List.map (TObject.e true) x.Objects)], .int .i64 q] sto = some (.int .i64 (foldn TObject.nx x.Objects (q)), [D.agg [D.int .i64 x.Next, D.sl true 10 (List.map (TObject.e true) (mkL TObject.mk_ TObject.nx x.Objects (q)))]], sto) := by
  simp only [THeap.n] at h
  have hfObjectsx := foldn_m TObject.nxm x.Objects (q)
  have hmk : T.mrk 42 = some [(1, .one, 106)] := rfl
  rw [vcall_mark T rfl hmk]
  simp (maxSteps := 9999999) (disch := omega) only [vx, px, ty, ↓reduceIte, Bool.false_eq_true, reduceCtorEq, Nat.reduceAdd, Nat.reduceSub, Nat.reduceLeDiff, Nat.reduceEqDiff, Nat.reduceLT, Nat.reduceMul, List.reduceReplicate, and_true, true_and, and_false, false_and, and_self, or_true, true_or, or_false, false_or, not_true_eq_false, not_false_eq_true, ne_eq, vmark, vmarks, setAt, deads, BK.width, List.replicate, c_markObjectS]
end Go.Vx.NrZ
