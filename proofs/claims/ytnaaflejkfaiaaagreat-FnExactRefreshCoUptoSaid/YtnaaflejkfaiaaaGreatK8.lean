/-
  The first of two codes.
-/
import Derived.Test.YtnaaflejkfaiaaaGreatK1
set_option linter.unusedVariables false
set_option linter.unusedSimpArgs false
namespace Go.Vx.RfZ
set_option linter.unusedVariables false
theorem zAD (a b:Int):zlv [a,b]=some (if a=0 then b else a):=by
 unfold zlv
 rw [ziD.eq_1,if_pos (by simp),show idx [a,b] 0=some a from rfl]
 simp only [Option.bind_eq_bind,Option.bind_some]
 by_cases ha:a=0
 ·rw [if_pos ha,if_pos ha,show IntKind.wrap .i64 (0 + 1)=1 from rfl,ziD.eq_1,if_pos (by simp),show idx [a,b] 1=some b from rfl]
  simp only [Option.bind_eq_bind,Option.bind_some]
  by_cases hb:b=0
  ·rw [if_pos hb,show IntKind.wrap .i64 (1 + 1)=2 from rfl,ziD.eq_1,if_neg (by simp),hb];rfl
  ·rw [if_neg hb];rfl
 ·rw [if_neg ha,if_neg ha];rfl
theorem ztm (b:Bool) (n:Int):zik b n=some (if b=true then 0 else n):=by unfold zik;split <;> rfl
end Go.Vx.RfZ
