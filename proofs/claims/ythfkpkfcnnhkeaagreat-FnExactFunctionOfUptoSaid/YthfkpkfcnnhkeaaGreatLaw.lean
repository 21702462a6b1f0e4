/-
  The law FnExactFunctionOf, at the evaluator.
-/

import Derived.Test.YthfkpkfcnnhkeaaGreatSz
import Derived.Test.YthfkpkfcnnhkeaaGreatTo
import Derived.Test.YthfkpkfcnnhkeaaGreatEq
import Derived.Test.YthfkpkfcnnhkeaaGreatMark
import Derived.Test.YthfkpkfcnnhkeaaGreatHeld
import Derived.Test.YthfkpkfcnnhkeaaGreatShA
import Derived.Test.YthfkpkfcnnhkeaaGreatF8
set_option linter.unusedVariables false
set_option linter.unusedSimpArgs false
namespace Go.Vx.FuZ
set_option linter.unusedVariables false
set_option linter.unusedSimpArgs false
set_option maxRecDepth 10000
set_option maxHeartbeats 4000000
theorem law (x0 : TScope) (x1 : ByteArray) (h0 : TScope.n x0 ≤ 1048576) (h1 : x1.size ≤ 1048576) (ht : TScope.n x0 + x1.size ≤ 1048576) : vcall T 4 [D.agg [D.sl false 5 (List.map (TBinding.e false) x0.Vars), D.sl false 4 (List.map (TFunction.e false) x0.Functions), D.sl false 2 (List.map (TRecordType.e false) x0.Types)], D.str x1] [] = some (.bool true, [], []) := by
  obtain ⟨r, hi, hs, hr⟩ := pure_law x0 x1 h0 h1 ht
  have ei := g_i_FunctionOf x0 x1 r hi
  have es := g_s_FunctionOf x0 x1 r hs
  clear hi hs
  simp only [] at ei es
  have hr0 := hr
  have := lsum_mn TBinding.mn x0.Vars
  have := lsum_mn TFunction.mn x0.Functions
  have := lsum_mn TRecordType.mn x0.Types
  have := lsum_m1 ByteArray.size r.1.Params
  have := lsum_m1 ByteArray.size r.1.Locals
  have := foldn_m TBinding.nxm x0.Vars (1)
  have := foldn_m TFunction.nxm x0.Functions (foldn TBinding.nx x0.Vars (1))
  have := foldn_m TRecordType.nxm x0.Types (foldn TFunction.nx x0.Functions (foldn TBinding.nx x0.Vars (1)))
  have := foldn_one r.1.Params (1)
  have := foldn_one r.1.Locals (foldn (fun _ k => k + 1) r.1.Params (1))
  have hb0 := h0
  try simp only [TFunction.n, TScope.n] at hb0
  have htt := ht
  try simp only [TFunction.n, TScope.n] at htt
  have hc0 := hr0
  try simp only [TFunction.n, TScope.n] at hc0
  have e0 := c_eqFunction r.1 [] (by simp only [TFunction.n, TScope.n] at *; omega)
  have e1 := c_eqScope x0 [] (by simp only [TFunction.n, TScope.n] at *; omega)
  have e2 := c_markScope x0 (1) [] (by simp only [TFunction.n, TScope.n] at *; omega) (by omega) (by (try simp only []); omega)
  have e3 := c_markFunction r.1 (1) [] (by simp only [TFunction.n, TScope.n] at *; omega) (by omega) (by (try simp only []); omega)
  have e4 := c_heldFunction r.1 (1) [] (by simp only [TFunction.n, TScope.n] at *; omega) (by omega) (by (try simp only []); omega)
  skip
  rw [vcall_go T (g := v4) rfl rfl rfl _ _ rfl]
  simp (maxSteps := 9999999) (disch := omega) only [vx, px, ty, ↓reduceIte, Bool.false_eq_true, reduceCtorEq, Nat.reduceAdd, Nat.reduceSub, Nat.reduceLeDiff, Nat.reduceEqDiff, Nat.reduceLT, Nat.reduceMul, List.reduceReplicate, and_true, true_and, and_false, false_and, and_self, or_true, true_or, or_false, false_or, not_true_eq_false, not_false_eq_true, ne_eq, vxd, Nat.reduceBNe, most, ifT, int_beq_self, beq_self_eq_true, Bool.not_true, v4, v4_b, c_szScope, c_toScope, ei, es, e0, e1, e2, e3, e4]
end Go.Vx.FuZ
