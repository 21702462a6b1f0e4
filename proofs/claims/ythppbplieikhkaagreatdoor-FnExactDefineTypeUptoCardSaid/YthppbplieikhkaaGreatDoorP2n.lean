/-
  The null value.
-/
import Derived.Test.YthppbplieikhkaaGreatDoorP2
set_option linter.unusedVariables false
set_option linter.unusedSimpArgs false
namespace Go.Vx.DtZ
set_option linter.unusedVariables false
def zrp (v : TValue) : Bool := decide (v.Kind = 1) && (decide (v.Num = 0) && (decide (v.Text = ⟨#[]⟩) && decide (v.Ref = 0)))
theorem zoS (v : TValue) : zjq v = some (zrp v) := rfl
theorem zoT (v : TValue) : zjr v = some (zrp v) := rfl
end Go.Vx.DtZ
