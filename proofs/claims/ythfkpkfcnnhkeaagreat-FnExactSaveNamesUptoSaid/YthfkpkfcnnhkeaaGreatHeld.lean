/-
  The laws' own functions: held.
-/

import Derived.Test.YthfkpkfcnnhkeaaGreatTypes
import Derived.Test.YthfkpkfcnnhkeaaGreatCode
import Derived.Test.YthfkpkfcnnhkeaaGreatMark
set_option linter.unusedVariables false
set_option linter.unusedSimpArgs false
namespace Go.Vx.SaZ
set_option linter.unusedVariables false
set_option linter.unusedSimpArgs false
set_option maxRecDepth 4000
set_option maxHeartbeats 4000000
theorem l_heldBindingS {R : Type} (e : En R) (sto : List (List D)) (k : List Fr) : ∀ (rest pre : List TBinding) (i q : Int), i = pre.length → pre.length + rest.length ≤ 34359738368 → lsum TBinding.n rest ≤ 34359738368 → 0 ≤ q → q + ((lsum TBinding.m rest : Nat) : Int) ≤ 1099511627776 →
    go T e v23_m1 (.lp v23_l1 :: .bl 0 :: .sq (.clr [4,5,6,7,8,9,10,11,12,13,14,15,16,17,18,19,20,21,22,23,24,25,26,27,28,29,30,31,32,33,34,35,36,37,38,39,40,41,42,43,44,45,46,47,48,49,50,51,52,53,54,55,56,57,58,59,60,61,62]) :: k) ⟨[.d (.sl false 5 (pre.map (TBinding.e false) ++ (mkL TBinding.mk_ TBinding.nx rest q).map (TBinding.e false))), .d (.int .i64 q), Z, Z, Z, .d (.int .i64 i), Z, Z, Z, Z, Z, Z, Z, Z, Z, Z, Z, Z, Z, Z, Z, Z, Z, Z, Z, Z, Z, Z, Z, Z, Z, Z, Z, Z, Z, Z, Z, Z, Z, Z, Z, Z, Z, Z, Z, Z, Z, Z, Z, Z, Z, Z, Z, Z, Z, Z, Z, Z, Z, Z, Z, Z, Z, Z], sto⟩ = bk T e k ⟨[.d (.sl false 5 (pre.map (TBinding.e false) ++ (mkL TBinding.mk_ TBinding.nx rest q).map (TBinding.e false))), .d (.int .i64 (foldn TBinding.nx rest q)), Z, Z, Z, Z, Z, Z, Z, Z, Z, Z, Z, Z, Z, Z, Z, Z, Z, Z, Z, Z, Z, Z, Z, Z, Z, Z, Z, Z, Z, Z, Z, Z, Z, Z, Z, Z, Z, Z, Z, Z, Z, Z, Z, Z, Z, Z, Z, Z, Z, Z, Z, Z, Z, Z, Z, Z, Z, Z, Z, Z, Z, Z], sto⟩ := by
  intro rest
  induction rest with
  | nil =>
    intro pre i q hi h1 h2 h3 h4
    have ht : i.toNat = pre.length := by omega
    unfold v23_m1
    simp (maxSteps := 9999999) (disch := omega) only [vx, px, ty, ↓reduceIte, Bool.false_eq_true, reduceCtorEq, Nat.reduceAdd, Nat.reduceSub, Nat.reduceLeDiff, Nat.reduceEqDiff, Nat.reduceLT, Nat.reduceMul, List.reduceReplicate, and_true, true_and, and_false, false_and, and_self, or_true, true_or, or_false, false_or, not_true_eq_false, not_false_eq_true, ne_eq, w23_1, mkL, foldn]
  | cons x rest ih =>
    intro pre i q hi h1 h2 h3 h4
    have ht : i.toNat = pre.length := by omega
    simp only [lsum_cons, TBinding.m, TBinding.n, TValue.m, TValue.n] at h2 h4
    rw [List.length_cons] at h1
    have hnx := TBinding.nxm x q
    have h := ih (pre ++ [TBinding.mk_ x q]) (i + 1) (TBinding.nx x q) (by simp; omega) (by simp; omega) (by omega) (by omega) (by simp only [hnx, TBinding.m, TValue.m, TValue.n]; omega)
    simp only [map_snoc] at h
    simp only [mkL, foldn, List.map_cons]
    unfold v23_m1
    simp (maxSteps := 9999999) (disch := omega) only [vx, px, ty, ↓reduceIte, Bool.false_eq_true, reduceCtorEq, Nat.reduceAdd, Nat.reduceSub, Nat.reduceLeDiff, Nat.reduceEqDiff, Nat.reduceLT, Nat.reduceMul, List.reduceReplicate, and_true, true_and, and_false, false_and, and_self, or_true, true_or, or_false, false_or, not_true_eq_false, not_false_eq_true, ne_eq, vxd, Nat.reduceBNe, w23_1, ht, ifT, c_markText, TBinding.mk_, TValue.mk_]
    exact h
theorem c_heldBindingS (xs : List TBinding) (q : Int) (sto : List (List D)) (h : xs.length ≤ 34359738368) (h2 : lsum TBinding.n xs ≤ 34359738368) (h3 : 0 ≤ q) (h4 : q + ((lsum TBinding.m xs : Nat) : Int) ≤ 1099511627776) : vcall T 23 [.sl false 5 ((mkL TBinding.mk_ TBinding.nx xs q).map (TBinding.e false)), .int .i64 q] sto = some (.int .i64 (foldn TBinding.nx xs q), [], sto) := by
  rw [vcall_go T (g := v23) rfl rfl rfl _ _ rfl]
  simp (maxSteps := 9999999) (disch := omega) only [vx, px, ty, ↓reduceIte, Bool.false_eq_true, reduceCtorEq, Nat.reduceAdd, Nat.reduceSub, Nat.reduceLeDiff, Nat.reduceEqDiff, Nat.reduceLT, Nat.reduceMul, List.reduceReplicate, and_true, true_and, and_false, false_and, and_self, or_true, true_or, or_false, false_or, not_true_eq_false, not_false_eq_true, ne_eq, v23, v23_b, w23_1]
  have hl := fun k => l_heldBindingS (enF [.tmp 4] []) sto k xs [] 0 q rfl (by simp; omega) h2 h3 h4
  simp only [List.map_nil, List.nil_append] at hl
  rw [hl]
  simp (maxSteps := 9999999) (disch := omega) only [vx, px, ty, ↓reduceIte, Bool.false_eq_true, reduceCtorEq, Nat.reduceAdd, Nat.reduceSub, Nat.reduceLeDiff, Nat.reduceEqDiff, Nat.reduceLT, Nat.reduceMul, List.reduceReplicate, and_true, true_and, and_false, false_and, and_self, or_true, true_or, or_false, false_or, not_true_eq_false, not_false_eq_true, ne_eq]
end Go.Vx.SaZ
