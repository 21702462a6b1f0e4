/-
  The null value.
-/
import Derived.Test.YthppbplieikhkaaGreatP2
set_option linter.unusedVariables false
set_option linter.unusedSimpArgs false
namespace Go.Vx.RnZ
set_option linter.unusedVariables false
def zje (v : TValue) : Bool := decide (v.Kind = 1) && (decide (v.Num = 0) && (decide (v.Text = ⟨#[]⟩) && decide (v.Ref = 0)))
theorem zkl (v : TValue) : zhK v = some (zje v) := rfl
theorem zkm (v : TValue) : zhM v = some (zje v) := rfl
end Go.Vx.RnZ
