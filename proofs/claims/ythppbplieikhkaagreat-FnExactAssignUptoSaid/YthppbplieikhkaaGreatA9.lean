/-
  Assign: the program's answer is the reference's.
-/
import Derived.Test.YthppbplieikhkaaGreatA8s
set_option linter.unusedVariables false
set_option linter.unusedSimpArgs false
namespace Go.Vx.AsZ
set_option linter.unusedVariables false
open Classical
theorem znY (s : TScope) (x : ByteArray) (v : TValue) (h : TScope.n s ≤ 1048576) : zhv s x v = some (if zbq s ∧ zaZ x = true ∧ vOK v = true then asg s x v else (znU, 1)) := by
 unfold zhv zfm
 rw [zjT s h, zdB, zge, znT s h]
 simp only [Option.bind_eq_bind, Option.bind_some]
 by_cases h1 : zbq s
 ·rw [decide_eq_true h1, if_pos rfl]
  by_cases h2 : zaZ x = true
  ·rw [if_pos h2]
   by_cases h3 : vOK v = true
   ·rw [if_pos h3, if_pos ⟨h1, h2, h3⟩, znV x v s.Vars s.Functions s.Types h1.1.1 h1.2.1.1]
    simp only [Option.bind_some]
    unfold asg
    by_cases hl : (asgL s.Vars x v).length > 40
    ·rw [if_pos hl, if_pos hl]; rfl
    ·rw [if_neg hl, if_neg hl]; rfl
   ·rw [if_neg h3, if_neg (fun q => h3 q.2.2)]; rfl
  ·rw [if_neg h2, if_neg (fun q => h2 q.2.1)]; rfl
 ·rw [decide_eq_false h1, if_neg (by simp), if_neg (fun q => h1 q.1)]; rfl
theorem zsS (x0 : TScope) (x1 : ByteArray) (x2 : TValue) (h0 : TScope.n x0 ≤ 1048576) (h1 : x1.size ≤ 1048576) (h2 : TValue.n x2 ≤ 1048576) (ht : TScope.n x0 + x1.size + TValue.n x2 ≤ 1048576) : ∃ r, zhv x0 x1 x2 = some r ∧ zht x0 x1 x2 = some r ∧ TScope.n r.1 ≤ 34359738368 := by
 refine ⟨_, znY x0 x1 x2 h0, znX x0 x1 x2 h0, ?_⟩
 split
 ·have := zsQ x0 x1 x2
  simp only [TBinding.n] at this; omega
 ·have : TScope.n znU = 0 := by decide
  simp only [this]; omega
end Go.Vx.AsZ
