/-
  The null value.
-/
import Derived.Test.YthppbplieikhkaaGreatP2
set_option linter.unusedVariables false
set_option linter.unusedSimpArgs false
namespace Go.Vx.AsZ
set_option linter.unusedVariables false
def ziI (v : TValue) : Bool := decide (v.Kind = 1) && (decide (v.Num = 0) && (decide (v.Text = ⟨#[]⟩) && decide (v.Ref = 0)))
theorem zjP (v : TValue) : zhr v = some (ziI v) := rfl
theorem zjQ (v : TValue) : zhu v = some (ziI v) := rfl
end Go.Vx.AsZ
