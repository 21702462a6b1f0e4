/-
  Assign, as the reference has it.
-/
import Derived.Test.YthppbplieikhkaaGreatA8
set_option linter.unusedVariables false
set_option linter.unusedSimpArgs false
namespace Go.Vx.RnZ
set_option linter.unusedVariables false
open Classical
theorem zoi (s : TScope) (x : ByteArray) (v : TValue) (h : TScope.n s ≤ 1048576) : zhL s x v = some (if zaN s ∧ zaE x = true ∧ vOK v = true then asg s x v else (zfo, 1)) := by
 unfold zhL zfx
 rw [zgs s h, zdh, zgp]
 simp only [Option.bind_eq_bind, Option.bind_some]
 by_cases h1 : zaN s
 ·rw [decide_eq_true h1, if_pos rfl]
  by_cases h2 : zaE x = true
  ·rw [if_pos h2]
   by_cases h3 : vOK v = true
   ·rw [if_pos h3, if_pos ⟨h1, h2, h3⟩, zoh s x v h h1.2.1.1]; rfl
   ·rw [if_neg h3, if_neg (fun q => h3 q.2.2)]; rfl
  ·rw [if_neg h2, if_neg (fun q => h2 q.2.1)]; rfl
 ·rw [decide_eq_false h1, if_neg (by simp), if_neg (fun q => h1 q.1)]; rfl
end Go.Vx.RnZ
