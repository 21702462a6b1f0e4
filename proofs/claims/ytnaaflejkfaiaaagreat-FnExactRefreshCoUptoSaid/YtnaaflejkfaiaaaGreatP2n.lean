/-
  The null value.
-/
import Derived.Test.YtnaaflejkfaiaaaGreatP2
set_option linter.unusedVariables false
set_option linter.unusedSimpArgs false
namespace Go.Vx.RfZ
set_option linter.unusedVariables false
def zlG (v:TValue):Bool:=decide (v.Kind=1) && (decide (v.Num=0) && (decide (v.Text=⟨#[]⟩) && decide (v.Ref=0)))
theorem zkd (v:TValue):zjr v=some (zlG v):=rfl
theorem znQ (v:TValue):zlu v=some (zlG v):=rfl
end Go.Vx.RfZ
