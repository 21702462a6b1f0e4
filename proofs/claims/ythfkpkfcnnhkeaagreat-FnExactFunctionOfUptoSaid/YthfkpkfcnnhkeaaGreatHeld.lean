/-
  The laws' own functions: held.
-/

import Derived.Test.YthfkpkfcnnhkeaaGreatTypes
import Derived.Test.YthfkpkfcnnhkeaaGreatCode
import Derived.Test.YthfkpkfcnnhkeaaGreatMark
set_option linter.unusedVariables false
set_option linter.unusedSimpArgs false
namespace Go.Vx.FuZ
set_option linter.unusedVariables false
set_option linter.unusedSimpArgs false
set_option maxRecDepth 4000
set_option maxHeartbeats 4000000
theorem l_heldStringS {R : Type} (e : En R) (sto : List (List D)) (k : List Fr) : ∀ (rest pre : List ByteArray) (i q : Int), i = pre.length → pre.length + rest.length ≤ 34359738368 → lsum ByteArray.size rest ≤ 34359738368 → 0 ≤ q → q + ((lsum (fun _ => 1) rest : Nat) : Int) ≤ 1099511627776 →
    go T e v86_m1 (.lp v86_l1 :: .bl 0 :: .sq (.clr [4,5,6,7,8,9,10,11,12,13,14,15,16,17,18,19,20]) :: k) ⟨[.d (.sl false 1 (pre.map D.str ++ (mkL (fun _ k => mt k) (fun _ k => k + 1) rest q).map D.str)), .d (.int .i64 q), Z, Z, Z, .d (.int .i64 i), Z, Z, Z, Z, Z, Z, Z, Z, Z, Z, Z, Z, Z, Z, Z, Z], sto⟩ = bk T e k ⟨[.d (.sl false 1 (pre.map D.str ++ (mkL (fun _ k => mt k) (fun _ k => k + 1) rest q).map D.str)), .d (.int .i64 (foldn (fun _ k => k + 1) rest q)), Z, Z, Z, Z, Z, Z, Z, Z, Z, Z, Z, Z, Z, Z, Z, Z, Z, Z, Z, Z], sto⟩ := by
  intro rest
  induction rest with
  | nil =>
    intro pre i q hi h1 h2 h3 h4
    have ht : i.toNat = pre.length := by omega
    unfold v86_m1
    simp (maxSteps := 9999999) (disch := omega) only [vx, px, ty, ↓reduceIte, Bool.false_eq_true, reduceCtorEq, Nat.reduceAdd, Nat.reduceSub, Nat.reduceLeDiff, Nat.reduceEqDiff, Nat.reduceLT, Nat.reduceMul, List.reduceReplicate, and_true, true_and, and_false, false_and, and_self, or_true, true_or, or_false, false_or, not_true_eq_false, not_false_eq_true, ne_eq, w86_1, mkL, foldn]
  | cons x rest ih =>
    intro pre i q hi h1 h2 h3 h4
    have ht : i.toNat = pre.length := by omega
    simp only [lsum_cons] at h2 h4
    rw [List.length_cons] at h1
    have h := ih (pre ++ [mt q]) (i + 1) (q + 1) (by simp; omega) (by simp; omega) (by omega) (by omega) (by omega)
    simp only [map_snoc] at h
    simp only [mkL, foldn, List.map_cons]
    unfold v86_m1
    simp (maxSteps := 9999999) (disch := omega) only [vx, px, ty, ↓reduceIte, Bool.false_eq_true, reduceCtorEq, Nat.reduceAdd, Nat.reduceSub, Nat.reduceLeDiff, Nat.reduceEqDiff, Nat.reduceLT, Nat.reduceMul, List.reduceReplicate, and_true, true_and, and_false, false_and, and_self, or_true, true_or, or_false, false_or, not_true_eq_false, not_false_eq_true, ne_eq, vxd, Nat.reduceBNe, w86_1, ht, ifT, c_markText]
    exact h
theorem c_heldStringS (xs : List ByteArray) (q : Int) (sto : List (List D)) (h : xs.length ≤ 34359738368) (h2 : lsum ByteArray.size xs ≤ 34359738368) (h3 : 0 ≤ q) (h4 : q + ((lsum (fun _ => 1) xs : Nat) : Int) ≤ 1099511627776) : vcall T 86 [.sl false 1 ((mkL (fun _ k => mt k) (fun _ k => k + 1) xs q).map D.str), .int .i64 q] sto = some (.int .i64 (foldn (fun _ k => k + 1) xs q), [], sto) := by
  rw [vcall_go T (g := v86) rfl rfl rfl _ _ rfl]
  simp (maxSteps := 9999999) (disch := omega) only [vx, px, ty, ↓reduceIte, Bool.false_eq_true, reduceCtorEq, Nat.reduceAdd, Nat.reduceSub, Nat.reduceLeDiff, Nat.reduceEqDiff, Nat.reduceLT, Nat.reduceMul, List.reduceReplicate, and_true, true_and, and_false, false_and, and_self, or_true, true_or, or_false, false_or, not_true_eq_false, not_false_eq_true, ne_eq, v86, v86_b, w86_1]
  have hl := fun k => l_heldStringS (enF [.tmp 4] []) sto k xs [] 0 q rfl (by simp; omega) h2 h3 h4
  simp only [List.map_nil, List.nil_append] at hl
  rw [hl]
  simp (maxSteps := 9999999) (disch := omega) only [vx, px, ty, ↓reduceIte, Bool.false_eq_true, reduceCtorEq, Nat.reduceAdd, Nat.reduceSub, Nat.reduceLeDiff, Nat.reduceEqDiff, Nat.reduceLT, Nat.reduceMul, List.reduceReplicate, and_true, true_and, and_false, false_and, and_self, or_true, true_or, or_false, false_or, not_true_eq_false, not_false_eq_true, ne_eq]
theorem c_heldFunction (x : TFunction) (q : Int) (sto : List (List D)) (h : TFunction.n x ≤ 34359738368) (h3 : 0 ≤ q) (h4 : q + ((lsum (fun _ => 1) x.Params + lsum (fun _ => 1) x.Locals : Nat) : Int) ≤ 1099511627776) : vcall T 28 [D.agg [D.str x.Name, D.sl false 1 (List.map D.str (mkL (fun _ k => mt k) (fun _ k => k + 1) x.Params (q))), D.sl false 1 (List.map D.str (mkL (fun _ k => mt k) (fun _ k => k + 1) x.Locals (foldn (fun _ k => k + 1) x.Params (q)))), D.str x.Label], .int .i64 q] sto = some (.int .i64 (foldn (fun _ k => k + 1) x.Locals (foldn (fun _ k => k + 1) x.Params (q))), [], sto) := by
  simp only [TFunction.n] at h
  have hfParamsx := foldn_one x.Params (q)
  have hfLocalsx := foldn_one x.Locals (foldn (fun _ k => k + 1) x.Params (q))
  rw [vcall_go T (g := v28) rfl rfl rfl _ _ rfl]
  simp (maxSteps := 9999999) (disch := omega) only [vx, px, ty, ↓reduceIte, Bool.false_eq_true, reduceCtorEq, Nat.reduceAdd, Nat.reduceSub, Nat.reduceLeDiff, Nat.reduceEqDiff, Nat.reduceLT, Nat.reduceMul, List.reduceReplicate, and_true, true_and, and_false, false_and, and_self, or_true, true_or, or_false, false_or, not_true_eq_false, not_false_eq_true, ne_eq, v28, v28_b, c_heldStringS]
end Go.Vx.FuZ
