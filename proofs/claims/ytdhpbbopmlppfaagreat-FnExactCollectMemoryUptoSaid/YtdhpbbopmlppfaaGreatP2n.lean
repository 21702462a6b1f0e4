/-
  The null value.
-/
import Derived.Test.YtdhpbbopmlppfaaGreatP2
set_option linter.unusedVariables false
set_option linter.unusedSimpArgs false
namespace Go.Vx.CmZ
set_option linter.unusedVariables false
def zlq (v:TValue):Bool:=decide (v.Kind=1) && (decide (v.Num=0) && (decide (v.Text=⟨#[]⟩) && decide (v.Ref=0)))
theorem znD (v:TValue):zkX v=some (zlq v):=rfl
theorem znE (v:TValue):zla v=some (zlq v):=rfl
end Go.Vx.CmZ
