/-
  slices.Insert and slices.Delete, in this program.
-/
import Derived.Test.YtapepbhnleekbaaGreatDoorVxF
import Derived.Test.YtapepbhnleekbaaGreatDoorProg
import Derived.Laws.Externs
import Derived.Lib.Overlaps
import Derived.KernelRfl
set_option linter.unusedVariables false
set_option linter.unusedSimpArgs false
namespace Go.Vx.WvZ
open Go.Proofs
set_option maxRecDepth 100000
theorem zCg:DelLay Tryz.prog 174 "slices.Delete[[]loop.example/g00873/impl.Binding,loop.example/g00873/impl.Binding]" 43 183 3 4 5 (.agg #[.string ByteArray.empty,.int .i64 0,.int .i64 0,.string ByteArray.empty,.int .i64 0]):={
 mixed:=by kernel_rfl
 fn:=Tryz.func174.trans (congrArg some (by kernel_rfl))
 t3:=Tryz.underlying3
 a3:=Tryz.isAgg3
 z3:=Tryz.sizeOf3
 v3:=Tryz.zeroValue3
 t4:=Tryz.underlying4
 a4:=Tryz.isAgg4
 z4:=Tryz.sizeOf4
 v4:=Tryz.zeroValue4
 t24:=Tryz.underlying43
 a24:=Tryz.isAgg43
 z24:=Tryz.sizeOf43
 v24:=Tryz.zeroValue43
 z9:=Tryz.sizeOf183
 i9:=⟨((Tryz.prog.info? 183).map (·.bytes)).getD 0,by kernel_rfl,of_decide_eq_true (by kernel_rfl)⟩
 v9:=Tryz.zeroValue183 }
theorem zCh:InsLay Tryz.prog 224 "slices.Insert[[]loop.example/g00873/impl.Binding,loop.example/g00873/impl.Binding]" 43 183 3 4 243 244 5 (.agg #[.string ByteArray.empty,.int .i64 0,.int .i64 0,.string ByteArray.empty,.int .i64 0]):={
 mixed:=by kernel_rfl
 fn:=Tryz.func224.trans (congrArg some (by kernel_rfl))
 t3:=Tryz.underlying3
 a3:=Tryz.isAgg3
 z3:=Tryz.sizeOf3
 v3:=Tryz.zeroValue3
 t4:=Tryz.underlying4
 a4:=Tryz.isAgg4
 z4:=Tryz.sizeOf4
 v4:=Tryz.zeroValue4
 t24:=Tryz.underlying43
 a24:=Tryz.isAgg43
 z24:=Tryz.sizeOf43
 v24:=Tryz.zeroValue43
 z9:=Tryz.sizeOf183
 i9:=⟨((Tryz.prog.info? 183).map (·.bytes)).getD 0,by kernel_rfl,of_decide_eq_true (by kernel_rfl)⟩
 ov:=fun w a b la ca lb cb hne tA tB kA kB hsa hsb hkB hfa hfe=>by
  rw [run_callFunc_extern (e:=Extern.SlicesOverlaps.overlaps #[43,43] #[4]) Tryz.func243 (by kernel_rfl) (by kernel_rfl) (by kernel_rfl) (by kernel_rfl),Lib.run_overlaps_apart w 43 4 183 Tryz.underlying43 5 Tryz.sizeOf183 a b la ca lb cb hne tA tB kA kB hsa hsb hkB hfa hfe]
  rfl }
end Go.Vx.WvZ

