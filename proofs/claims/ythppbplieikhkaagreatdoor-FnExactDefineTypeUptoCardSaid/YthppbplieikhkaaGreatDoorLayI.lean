/-
  slices.Insert and slices.Delete, in this program.
-/
import Derived.Test.YthppbplieikhkaaGreatDoorVxF
import Derived.Test.YthppbplieikhkaaGreatDoorProg
import Derived.Laws.Externs
import Derived.Lib.Overlaps
import Derived.KernelRfl
set_option linter.unusedVariables false
set_option linter.unusedSimpArgs false
namespace Go.Vx.DtZ
open Go.Proofs
set_option maxRecDepth 100000
theorem zyT : InsLay Tryz.prog 119 "slices.Insert[[]loop.example/g00873/impl.RecordType,loop.example/g00873/impl.RecordType]" 30 54 3 4 146 147 2 (.agg #[.string ByteArray.empty, .slice none 0 0]) := {
 mixed := by kernel_rfl
 fn := Tryz.func119.trans (congrArg some (by kernel_rfl))
 t3 := Tryz.underlying3
 a3 := Tryz.isAgg3
 z3 := Tryz.sizeOf3
 v3 := Tryz.zeroValue3
 t4 := Tryz.underlying4
 a4 := Tryz.isAgg4
 z4 := Tryz.sizeOf4
 v4 := Tryz.zeroValue4
 t24 := Tryz.underlying30
 a24 := Tryz.isAgg30
 z24 := Tryz.sizeOf30
 v24 := Tryz.zeroValue30
 z9 := Tryz.sizeOf54
 i9 := ⟨((Tryz.prog.info? 54).map (·.bytes)).getD 0, by kernel_rfl, of_decide_eq_true (by kernel_rfl)⟩
 ov := fun w a b la ca lb cb hne tA tB kA kB hsa hsb hkB hfa hfe => by
  rw [run_callFunc_extern (e := Extern.SlicesOverlaps.overlaps #[30, 30] #[4]) Tryz.func146 (by kernel_rfl) (by kernel_rfl) (by kernel_rfl) (by kernel_rfl), Lib.run_overlaps_apart w 30 4 54 Tryz.underlying30 2 Tryz.sizeOf54 a b la ca lb cb hne tA tB kA kB hsa hsb hkB hfa hfe]
  rfl }
end Go.Vx.DtZ
