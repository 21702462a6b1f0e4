/-
  The law FnExactDefineFunction, at the evaluator.
-/
import Derived.Test.YthppbplieikhkaaGreatDoorSz
import Derived.Test.YthppbplieikhkaaGreatDoorTo
import Derived.Test.YthppbplieikhkaaGreatDoorEq
import Derived.Test.YthppbplieikhkaaGreatDoorMark
import Derived.Test.YthppbplieikhkaaGreatDoorHeld
import Derived.Test.YthppbplieikhkaaGreatDoorShB
import Derived.Test.YthppbplieikhkaaGreatDoorDf
set_option linter.unusedVariables false
set_option linter.unusedSimpArgs false
namespace Go.Vx.DfZ
set_option linter.unusedVariables false
set_option linter.unusedSimpArgs false
set_option maxRecDepth 10000
set_option maxHeartbeats 4000000
theorem law (x0 : TScope) (x1 : ByteArray) (x2 : ByteArray) (h0 : TScope.n x0 ≤ 1048576) (h1 : x1.size ≤ 1048576) (h2 : x2.size ≤ 1048576) (ht : TScope.n x0 + x1.size + x2.size ≤ 1048576) : zab T 4 [D.agg [D.sl false 5 (List.map (TBinding.e false) x0.Vars), D.sl false 4 (List.map (TFunction.e false) x0.Functions), D.sl false 2 (List.map (TRecordType.e false) x0.Types)], D.str x1, D.str x2] [] = some (.bool true, [], []) := by
 obtain ⟨r, s, hi, hs, hrs, hr⟩ := zuO x0 x1 x2 h0 h1 h2 ht
 obtain ⟨_, ei⟩ := ziE x0 x1 x2 (.inr r) hi
 have es0 := ziA x0 x1 x2 s hs
 clear hi hs
 try simp only [] at ei
 rcases s with s | s
 ·simp only [Sum.elim_inl, Sum.elim_inr, id] at hrs
  subst hrs
  obtain ⟨_, es⟩ := es0
  try simp only [] at es
  have hr0 := hr
  have := zdd TBinding.mn x0.Vars
  have := zdd TFunction.mn x0.Functions
  have := zdd TRecordType.mn x0.Types
  have := zdd TBinding.mn r.1.Vars
  have := zdd TFunction.mn r.1.Functions
  have := zdd TRecordType.mn r.1.Types
  have := zby TBinding.nxm x0.Vars (1)
  have := zby TFunction.nxm x0.Functions (zas TBinding.nx x0.Vars (1))
  have := zby TRecordType.nxm x0.Types (zas TFunction.nx x0.Functions (zas TBinding.nx x0.Vars (1)))
  have := zby TBinding.nxm r.1.Vars (1)
  have := zby TFunction.nxm r.1.Functions (zas TBinding.nx r.1.Vars (1))
  have := zby TRecordType.nxm r.1.Types (zas TFunction.nx r.1.Functions (zas TBinding.nx r.1.Vars (1)))
  have hb0 := h0
  try simp only [TScope.n] at hb0
  have htt := ht
  try simp only [TScope.n] at htt
  have hc0 := hr0
  try simp only [TScope.n] at hc0
  have e0 := zis r.1 [] (by simp only [TScope.n] at *; omega)
  have e1 := zis x0 [] (by simp only [TScope.n] at *; omega)
  have e2 := zgf x0 (1) [] (by simp only [TScope.n] at *; omega) (by omega) (by (try simp only []); omega)
  have e3 := zgf r.1 (1) [] (by simp only [TScope.n] at *; omega) (by omega) (by (try simp only []); omega)
  have e4 := zkF r.1 (1) [] (by simp only [TScope.n] at *; omega) (by omega) (by (try simp only []); omega)
  skip
  rw [zae T (g := v4) rfl rfl rfl _ _ rfl]
  simp (maxSteps := 9999999) (disch := omega) only [vx, px, ty, ↓reduceIte, seval, fx, vxd, Nat.reduceBNe, most, ifT, zgE, beq_self_eq_true, Bool.not_true, v4, v4_b, zod, zoh, ei, es, e0, e1, e2, e3, e4]
 ·simp only [Sum.elim_inl, Sum.elim_inr, id] at hrs
  subst hrs
  obtain ⟨_, es⟩ := es0
  try simp only [] at es
  have hr0 := hr
  have := zdd TBinding.mn x0.Vars
  have := zdd TFunction.mn x0.Functions
  have := zdd TRecordType.mn x0.Types
  have := zdd TBinding.mn r.1.Vars
  have := zdd TFunction.mn r.1.Functions
  have := zdd TRecordType.mn r.1.Types
  have := zby TBinding.nxm x0.Vars (1)
  have := zby TFunction.nxm x0.Functions (zas TBinding.nx x0.Vars (1))
  have := zby TRecordType.nxm x0.Types (zas TFunction.nx x0.Functions (zas TBinding.nx x0.Vars (1)))
  have := zby TBinding.nxm r.1.Vars (1)
  have := zby TFunction.nxm r.1.Functions (zas TBinding.nx r.1.Vars (1))
  have := zby TRecordType.nxm r.1.Types (zas TFunction.nx r.1.Functions (zas TBinding.nx r.1.Vars (1)))
  have hb0 := h0
  try simp only [TScope.n] at hb0
  have htt := ht
  try simp only [TScope.n] at htt
  have hc0 := hr0
  try simp only [TScope.n] at hc0
  have e0 := zis r.1 [] (by simp only [TScope.n] at *; omega)
  have e1 := zis x0 [] (by simp only [TScope.n] at *; omega)
  have e2 := zgf x0 (1) [] (by simp only [TScope.n] at *; omega) (by omega) (by (try simp only []); omega)
  have e3 := zgf r.1 (1) [] (by simp only [TScope.n] at *; omega) (by omega) (by (try simp only []); omega)
  have e4 := zkF r.1 (1) [] (by simp only [TScope.n] at *; omega) (by omega) (by (try simp only []); omega)
  skip
  rw [zae T (g := v4) rfl rfl rfl _ _ rfl]
  simp (maxSteps := 9999999) (disch := omega) only [vx, px, ty, ↓reduceIte, seval, fx, vxd, Nat.reduceBNe, most, ifT, zgE, beq_self_eq_true, Bool.not_true, v4, v4_b, zod, zoh, ei, es, e0, e1, e2, e3, e4]
end Go.Vx.DfZ
