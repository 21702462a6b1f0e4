/-
  slices.Insert and slices.Delete, in this program.
-/
import Derived.Test.YtnaaflejkfaiaaaGreatVxF
import Derived.Test.YtnaaflejkfaiaaaGreatProg
import Derived.Laws.Externs
import Derived.Lib.Overlaps
import Derived.KernelRfl
set_option linter.unusedVariables false
set_option linter.unusedSimpArgs false
namespace Go.Vx.RmZ
open Go.Proofs
set_option maxRecDepth 100000
theorem zBO:DelLay Tryz.prog 87 "slices.Delete[[]loop.example/g00873/impl.Coexpr,loop.example/g00873/impl.Coexpr]" 65 62 3 4 17 (.agg #[.int .i64 0,.int .i64 0,.int .i64 0,.string ByteArray.empty,.int .i64 0,.int .i64 0,.string ByteArray.empty,.int .i64 0,.slice none 0 0,.slice none 0 0,.slice none 0 0,.int .i64 0,.int .i64 0,.slice none 0 0,.slice none 0 0,.int .i64 0,.bool false]):={
 mixed:=by kernel_rfl
 fn:=Tryz.func87.trans (congrArg some (by kernel_rfl))
 t3:=Tryz.underlying3
 a3:=Tryz.isAgg3
 z3:=Tryz.sizeOf3
 v3:=Tryz.zeroValue3
 t4:=Tryz.underlying4
 a4:=Tryz.isAgg4
 z4:=Tryz.sizeOf4
 v4:=Tryz.zeroValue4
 t24:=Tryz.underlying65
 a24:=Tryz.isAgg65
 z24:=Tryz.sizeOf65
 v24:=Tryz.zeroValue65
 z9:=Tryz.sizeOf62
 i9:=⟨((Tryz.prog.info? 62).map (·.bytes)).getD 0,by kernel_rfl,of_decide_eq_true (by kernel_rfl)⟩
 v9:=Tryz.zeroValue62 }
end Go.Vx.RmZ

