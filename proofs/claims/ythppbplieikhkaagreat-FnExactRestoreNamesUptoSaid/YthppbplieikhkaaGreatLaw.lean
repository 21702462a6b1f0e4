/-
  The law FnExactRestoreNames, at the evaluator.
-/
import Derived.Test.YthppbplieikhkaaGreatSz
import Derived.Test.YthppbplieikhkaaGreatTo
import Derived.Test.YthppbplieikhkaaGreatEq
import Derived.Test.YthppbplieikhkaaGreatMark
import Derived.Test.YthppbplieikhkaaGreatHeld
import Derived.Test.YthppbplieikhkaaGreatShB
import Derived.Test.YthppbplieikhkaaGreatR9
set_option linter.unusedVariables false
set_option linter.unusedSimpArgs false
namespace Go.Vx.RnZ
set_option linter.unusedVariables false
set_option linter.unusedSimpArgs false
set_option maxRecDepth 10000
set_option maxHeartbeats 4000000
theorem law (x0 : TScope) (x1 : List TBinding) (h0 : TScope.n x0 ≤ 1048576) (h1 : x1.length + lsum TBinding.n x1 ≤ 1048576) (ht : TScope.n x0 + (x1.length + lsum TBinding.n x1) ≤ 1048576) : zab T 4 [D.agg [D.sl false 5 (List.map (TBinding.e false) x0.Vars), D.sl false 4 (List.map (TFunction.e false) x0.Functions), D.sl false 2 (List.map (TRecordType.e false) x0.Types)], D.sl false 5 (List.map (TBinding.e false) x1)] [] = some (.bool true, [], []) := by
 obtain ⟨r, hi, hs, hr⟩ := ztj x0 x1 h0 h1 ht
 obtain ⟨_, ei⟩ := zjc x0 x1 r hi
 obtain ⟨_, es⟩ := ziX x0 x1 r hs
 clear hi hs
 try simp only [] at ei es
 have hr0 := hr
 have := zds TBinding.mn x0.Vars
 have := zds TFunction.mn x0.Functions
 have := zds TRecordType.mn x0.Types
 have := zds TBinding.mn x1
 have := zds TBinding.mn r.1.Vars
 have := zds TFunction.mn r.1.Functions
 have := zds TRecordType.mn r.1.Types
 have := zbQ TBinding.nxm x0.Vars (1)
 have := zbQ TFunction.nxm x0.Functions (zam TBinding.nx x0.Vars (1))
 have := zbQ TRecordType.nxm x0.Types (zam TFunction.nx x0.Functions (zam TBinding.nx x0.Vars (1)))
 have := zbQ TBinding.nxm x1 (zam TRecordType.nx x0.Types (zam TFunction.nx x0.Functions (zam TBinding.nx x0.Vars (1))))
 have := zbQ TBinding.nxm r.1.Vars (1)
 have := zbQ TFunction.nxm r.1.Functions (zam TBinding.nx r.1.Vars (1))
 have := zbQ TRecordType.nxm r.1.Types (zam TFunction.nx r.1.Functions (zam TBinding.nx r.1.Vars (1)))
 have hb0 := h0
 try simp only [TScope.n] at hb0
 have hb1 := h1
 try simp only [TScope.n] at hb1
 have htt := ht
 try simp only [TScope.n] at htt
 have hc0 := hr0
 try simp only [TScope.n] at hc0
 have e0 := znm r.1 [] (by simp only [TScope.n] at *; omega)
 have e1 := znm x0 [] (by simp only [TScope.n] at *; omega)
 have e2 := ziM x1 [] (by omega) (by omega)
 have e3 := zkb x0 (1) [] (by simp only [TScope.n] at *; omega) (by omega) (by (try simp only []); omega)
 have e4 := zgW x1 (zam TRecordType.nx x0.Types (zam TFunction.nx x0.Functions (zam TBinding.nx x0.Vars (1)))) [] (by omega) (by omega) (by omega) (by omega)
 have e5 := zkb r.1 (1) [] (by simp only [TScope.n] at *; omega) (by omega) (by (try simp only []); omega)
 have e6 := zob r.1 (1) [] (by simp only [TScope.n] at *; omega) (by omega) (by (try simp only []); omega)
 skip
 rw [zaf T (g := v4) rfl rfl rfl _ _ rfl]
 simp (maxSteps := 9999999) (disch := omega) only [vx, px, ty, ↓reduceIte, Bool.false_eq_true, reduceCtorEq, Nat.reduceAdd, Nat.reduceSub, Nat.reduceLeDiff, Nat.reduceEqDiff, Nat.reduceLT, Nat.reduceMul, List.reduceReplicate, and_true, true_and, and_false, false_and, and_self, or_true, true_or, or_false, false_or, not_true_eq_false, not_false_eq_true, ne_eq, vxd, Nat.reduceBNe, most, ifT, ziI, beq_self_eq_true, Bool.not_true, v4, v4_b, ziK, zsd, ziL, zsf, ei, es, e0, e1, e2, e3, e4, e5, e6]
end Go.Vx.RnZ
