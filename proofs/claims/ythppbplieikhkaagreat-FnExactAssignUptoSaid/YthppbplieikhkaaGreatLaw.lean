/-
  The law FnExactAssign, at the evaluator.
-/
import Derived.Test.YthppbplieikhkaaGreatSz
import Derived.Test.YthppbplieikhkaaGreatTo
import Derived.Test.YthppbplieikhkaaGreatEq
import Derived.Test.YthppbplieikhkaaGreatMark
import Derived.Test.YthppbplieikhkaaGreatHeld
import Derived.Test.YthppbplieikhkaaGreatShB
import Derived.Test.YthppbplieikhkaaGreatA9
set_option linter.unusedVariables false
set_option linter.unusedSimpArgs false
namespace Go.Vx.AsZ
set_option linter.unusedVariables false
set_option linter.unusedSimpArgs false
set_option maxRecDepth 10000
set_option maxHeartbeats 4000000
theorem law (x0 : TScope) (x1 : ByteArray) (x2 : TValue) (h0 : TScope.n x0 ≤ 1048576) (h1 : x1.size ≤ 1048576) (h2 : TValue.n x2 ≤ 1048576) (ht : TScope.n x0 + x1.size + TValue.n x2 ≤ 1048576) : zab T 3 [D.agg [D.sl false 5 (List.map (TBinding.e false) x0.Vars), D.sl false 4 (List.map (TFunction.e false) x0.Functions), D.sl false 2 (List.map (TRecordType.e false) x0.Types)], D.str x1, D.agg [D.int .i64 x2.Kind, D.int .i64 x2.Num, D.str x2.Text, D.int .i64 x2.Ref]] [] = some (.bool true, [], []) := by
 obtain ⟨r, hi, hs, hr⟩ := zsS x0 x1 x2 h0 h1 h2 ht
 obtain ⟨_, ei⟩ := zqi x0 x1 x2 r hi
 obtain ⟨_, es⟩ := zqg x0 x1 x2 r hs
 clear hi hs
 try simp only [] at ei es
 have hr0 := hr
 have := zdw TBinding.mn x0.Vars
 have := zdw TFunction.mn x0.Functions
 have := zdw TRecordType.mn x0.Types
 have := zdw TBinding.mn r.1.Vars
 have := zdw TFunction.mn r.1.Functions
 have := zdw TRecordType.mn r.1.Types
 have := zbZ TBinding.nxm x0.Vars (1)
 have := zbZ TFunction.nxm x0.Functions (zao TBinding.nx x0.Vars (1))
 have := zbZ TRecordType.nxm x0.Types (zao TFunction.nx x0.Functions (zao TBinding.nx x0.Vars (1)))
 have := zbZ TBinding.nxm r.1.Vars (1)
 have := zbZ TFunction.nxm r.1.Functions (zao TBinding.nx r.1.Vars (1))
 have := zbZ TRecordType.nxm r.1.Types (zao TFunction.nx r.1.Functions (zao TBinding.nx r.1.Vars (1)))
 have hb0 := h0
 try simp only [TScope.n, TValue.n] at hb0
 have hb2 := h2
 try simp only [TScope.n, TValue.n] at hb2
 have htt := ht
 try simp only [TScope.n, TValue.n] at htt
 have hc0 := hr0
 try simp only [TScope.n, TValue.n] at hc0
 have e0 := zna r.1 [] (by simp only [TScope.n, TValue.n] at *; omega)
 have e1 := zna x0 [] (by simp only [TScope.n, TValue.n] at *; omega)
 have e2 := zjF x0 (1) [] (by simp only [TScope.n, TValue.n] at *; omega) (by omega) (by (try simp only []); omega)
 have e3 := zjF r.1 (1) [] (by simp only [TScope.n, TValue.n] at *; omega) (by omega) (by (try simp only []); omega)
 have e4 := znP r.1 (1) [] (by simp only [TScope.n, TValue.n] at *; omega) (by omega) (by (try simp only []); omega)
 skip
 rw [zaf T (g := v3) rfl rfl rfl _ _ rfl]
 simp (maxSteps := 9999999) (disch := omega) only [vx, px, ty, ↓reduceIte, Bool.false_eq_true, reduceCtorEq, Nat.reduceAdd, Nat.reduceSub, Nat.reduceLeDiff, Nat.reduceEqDiff, Nat.reduceLT, Nat.reduceMul, List.reduceReplicate, and_true, true_and, and_false, false_and, and_self, or_true, true_or, or_false, false_or, not_true_eq_false, not_false_eq_true, ne_eq, vxd, Nat.reduceBNe, most, ifT, zir, beq_self_eq_true, Bool.not_true, v3, v3_b, zrN, zmP, zrO, zmT, ei, es, e0, e1, e2, e3, e4]
end Go.Vx.AsZ
