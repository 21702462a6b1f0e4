/-
  slices.Insert and slices.Delete, in this program.
-/
import Derived.Test.YthppbplieikhkaaGreatDoorVxF
import Derived.Test.YthppbplieikhkaaGreatDoorProg
import Derived.Laws.Externs
import Derived.Lib.Overlaps
import Derived.KernelRfl
set_option linter.unusedVariables false
set_option linter.unusedSimpArgs false
namespace Go.Vx.DfZ
open Go.Proofs
set_option maxRecDepth 100000
theorem zzs : InsLay Tryz.prog 126 "slices.Insert[[]loop.example/g00873/impl.Function,loop.example/g00873/impl.Function]" 29 47 3 4 148 149 4 (.agg #[.string ByteArray.empty, .slice none 0 0, .slice none 0 0, .string ByteArray.empty]) := {
 mixed := by kernel_rfl
 fn := Tryz.func126.trans (congrArg some (by kernel_rfl))
 t3 := Tryz.underlying3
 a3 := Tryz.isAgg3
 z3 := Tryz.sizeOf3
 v3 := Tryz.zeroValue3
 t4 := Tryz.underlying4
 a4 := Tryz.isAgg4
 z4 := Tryz.sizeOf4
 v4 := Tryz.zeroValue4
 t24 := Tryz.underlying29
 a24 := Tryz.isAgg29
 z24 := Tryz.sizeOf29
 v24 := Tryz.zeroValue29
 z9 := Tryz.sizeOf47
 i9 := ⟨((Tryz.prog.info? 47).map (·.bytes)).getD 0, by kernel_rfl, of_decide_eq_true (by kernel_rfl)⟩
 ov := fun w a b la ca lb cb hne tA tB kA kB hsa hsb hkB hfa hfe => by
  rw [run_callFunc_extern (e := Extern.SlicesOverlaps.overlaps #[29, 29] #[4]) Tryz.func148 (by kernel_rfl) (by kernel_rfl) (by kernel_rfl) (by kernel_rfl), Lib.run_overlaps_apart w 29 4 47 Tryz.underlying29 4 Tryz.sizeOf47 a b la ca lb cb hne tA tB kA kB hsa hsb hkB hfa hfe]
  rfl }
end Go.Vx.DfZ
