/-
  The null value.
-/
import Derived.Test.YtnaaflejkfaiaaaGreatP2
set_option linter.unusedVariables false
set_option linter.unusedSimpArgs false
namespace Go.Vx.RmZ
def zmb (v:TValue):Bool:=decide (v.Kind=1) && (decide (v.Num=0) && (decide (v.Text=⟨#[]⟩) && decide (v.Ref=0)))
theorem zkp (v:TValue):zjD v=some (zmb v):=rfl
theorem zol (v:TValue):zlP v=some (zmb v):=rfl
end Go.Vx.RmZ

