/-
  The null value.
-/
import Derived.Test.YtapepbhnleekbaaGreatDoorP2
set_option linter.unusedVariables false
set_option linter.unusedSimpArgs false
namespace Go.Vx.WvZ
def ziL (v:TValue):Bool:=decide (v.Kind=1) && (decide (v.Num=0) && (decide (v.Text=⟨#[]⟩) && decide (v.Ref=0)))
theorem zjO (v:TValue):ziS v=some (ziL v):=rfl
theorem zjP (v:TValue):ziX v=some (ziL v):=rfl
end Go.Vx.WvZ

