/-
  The null value.
-/
import Derived.Test.YtnaaflejkfaiaaaGreatP2
set_option linter.unusedVariables false
set_option linter.unusedSimpArgs false
namespace Go.Vx.CrZ
set_option linter.unusedVariables false
def zlD (v:TValue):Bool:=decide (v.Kind=1) && (decide (v.Num=0) && (decide (v.Text=⟨#[]⟩) && decide (v.Ref=0)))
theorem zka (v:TValue):zjo v=some (zlD v):=rfl
theorem znK (v:TValue):zlp v=some (zlD v):=rfl
end Go.Vx.CrZ
