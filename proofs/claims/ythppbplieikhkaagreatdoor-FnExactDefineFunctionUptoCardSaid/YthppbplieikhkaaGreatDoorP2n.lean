/-
  The null value.
-/
import Derived.Test.YthppbplieikhkaaGreatDoorP2
set_option linter.unusedVariables false
set_option linter.unusedSimpArgs false
namespace Go.Vx.DfZ
set_option linter.unusedVariables false
def zrH (v : TValue) : Bool := decide (v.Kind = 1) && (decide (v.Num = 0) && (decide (v.Text = ⟨#[]⟩) && decide (v.Ref = 0)))
theorem zpi (v : TValue) : zjN v = some (zrH v) := rfl
theorem zpj (v : TValue) : zjO v = some (zrH v) := rfl
end Go.Vx.DfZ
