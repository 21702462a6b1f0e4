/-
  The null value.
-/
import Derived.Test.YtnaaflejkfaiaaaGreatP2
set_option linter.unusedVariables false
set_option linter.unusedSimpArgs false
namespace Go.Vx.CpZ
set_option linter.unusedVariables false
def zlg (v:TValue):Bool:=decide (v.Kind=1) && (decide (v.Num=0) && (decide (v.Text=⟨#[]⟩) && decide (v.Ref=0)))
theorem zjG (v:TValue):ziV v=some (zlg v):=rfl
theorem znq (v:TValue):zkZ v=some (zlg v):=rfl
end Go.Vx.CpZ
