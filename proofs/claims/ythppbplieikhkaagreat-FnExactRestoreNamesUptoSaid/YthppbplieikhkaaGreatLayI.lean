/-
  slices.Insert and slices.Delete, in this program.
-/
import Derived.Test.YthppbplieikhkaaGreatVxF
import Derived.Test.YthppbplieikhkaaGreatProg
import Derived.Laws.Externs
import Derived.Lib.Overlaps
import Derived.KernelRfl
set_option linter.unusedVariables false
set_option linter.unusedSimpArgs false
namespace Go.Vx.RnZ
open Go.Proofs
set_option maxRecDepth 100000
theorem zya : DelLay Tryz.prog 94 "slices.Delete[[]loop.example/g00873/impl.Binding,loop.example/g00873/impl.Binding]" 31 58 3 4 5 (.agg #[.string ByteArray.empty, .int .i64 0, .int .i64 0, .string ByteArray.empty, .int .i64 0]) := {
 mixed := by kernel_rfl
 fn := Tryz.func94.trans (congrArg some (by kernel_rfl))
 t3 := Tryz.underlying3
 a3 := Tryz.isAgg3
 z3 := Tryz.sizeOf3
 v3 := Tryz.zeroValue3
 t4 := Tryz.underlying4
 a4 := Tryz.isAgg4
 z4 := Tryz.sizeOf4
 v4 := Tryz.zeroValue4
 t24 := Tryz.underlying31
 a24 := Tryz.isAgg31
 z24 := Tryz.sizeOf31
 v24 := Tryz.zeroValue31
 z9 := Tryz.sizeOf58
 i9 := ⟨((Tryz.prog.info? 58).map (·.bytes)).getD 0, by kernel_rfl, of_decide_eq_true (by kernel_rfl)⟩
 v9 := Tryz.zeroValue58 }
theorem zxB : InsLay Tryz.prog 125 "slices.Insert[[]loop.example/g00873/impl.Binding,loop.example/g00873/impl.Binding]" 31 58 3 4 140 141 5 (.agg #[.string ByteArray.empty, .int .i64 0, .int .i64 0, .string ByteArray.empty, .int .i64 0]) := {
 mixed := by kernel_rfl
 fn := Tryz.func125.trans (congrArg some (by kernel_rfl))
 t3 := Tryz.underlying3
 a3 := Tryz.isAgg3
 z3 := Tryz.sizeOf3
 v3 := Tryz.zeroValue3
 t4 := Tryz.underlying4
 a4 := Tryz.isAgg4
 z4 := Tryz.sizeOf4
 v4 := Tryz.zeroValue4
 t24 := Tryz.underlying31
 a24 := Tryz.isAgg31
 z24 := Tryz.sizeOf31
 v24 := Tryz.zeroValue31
 z9 := Tryz.sizeOf58
 i9 := ⟨((Tryz.prog.info? 58).map (·.bytes)).getD 0, by kernel_rfl, of_decide_eq_true (by kernel_rfl)⟩
 ov := fun w a b la ca lb cb hne tA tB kA kB hsa hsb hkB hfa hfe => by
  rw [run_callFunc_extern (e := Extern.SlicesOverlaps.overlaps #[31, 31] #[4]) Tryz.func140 (by kernel_rfl) (by kernel_rfl) (by kernel_rfl) (by kernel_rfl), Lib.run_overlaps_apart w 31 4 58 Tryz.underlying31 5 Tryz.sizeOf58 a b la ca lb cb hne tA tB kA kB hsa hsb hkB hfa hfe]
  rfl }
end Go.Vx.RnZ
