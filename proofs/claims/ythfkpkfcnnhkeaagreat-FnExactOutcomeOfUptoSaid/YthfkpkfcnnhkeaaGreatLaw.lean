/-
  The laws' own functions: sizes, copies, comparisons, marks.
-/

import Derived.Test.YthfkpkfcnnhkeaaGreatSz
import Derived.Test.YthfkpkfcnnhkeaaGreatTo
import Derived.Test.YthfkpkfcnnhkeaaGreatEq
import Derived.Test.YthfkpkfcnnhkeaaGreatMark
import Derived.Test.YthfkpkfcnnhkeaaGreatHeld
import Derived.Test.YthfkpkfcnnhkeaaGreatD
import Derived.Test.YthfkpkfcnnhkeaaGreatE
set_option linter.unusedVariables false
set_option linter.unusedSimpArgs false
namespace Go.Vx.OcZ
set_option linter.unusedVariables false
set_option linter.unusedSimpArgs false
set_option maxRecDepth 4000
set_option maxHeartbeats 2000000
theorem law (x : TMachine) (h : TMachine.n x ≤ 1048576) : vcall T 9 [D.agg [D.int .i64 x.Status, D.int .i64 x.Code, D.int .i64 x.Memory.Heap.Next, D.sl false 10 (List.map (TObject.e false) x.Memory.Heap.Objects), D.sl false 5 (List.map (TBinding.e false) x.Memory.Scope.Vars), D.sl false 4 (List.map (TFunction.e false) x.Memory.Scope.Functions), D.sl false 2 (List.map (TRecordType.e false) x.Memory.Scope.Types), D.sl false 1 (List.map D.str x.Memory.Console.Input), D.int .i64 x.Memory.Console.At, D.sl false 1 (List.map D.str x.Memory.Console.Output), D.sl false 4 (List.map (TFile.e false) x.Memory.Console.Files), D.sl false 1 (List.map D.str x.Memory.Console.Trace), D.sl false 4 (List.map (TValue.e false) x.Stack), D.sl false 5 (List.map (TCallFrame.e false) x.Frames), D.int .i64 x.PC, D.int .i64 x.Base, D.int .i64 x.At, D.int .i64 x.Steps, D.int .i64 x.Fuel]] [] = some (.bool true, [], []) := by
  have hf0 := lsum_mn TObject.mn x.Memory.Heap.Objects
  have hf1 := lsum_mn TBinding.mn x.Memory.Scope.Vars
  have hf2 := lsum_mn TFunction.mn x.Memory.Scope.Functions
  have hf3 := lsum_mn TRecordType.mn x.Memory.Scope.Types
  have hf4 := lsum_m1 ByteArray.size x.Memory.Console.Input
  have hf5 := lsum_m1 ByteArray.size x.Memory.Console.Output
  have hf6 := lsum_mn TFile.mn x.Memory.Console.Files
  have hf7 := lsum_m1 ByteArray.size x.Memory.Console.Trace
  have hf8 := lsum_mn TValue.mn x.Stack
  have hf9 := lsum_mn TCallFrame.mn x.Frames
  have hfObjectsx_Memory_Heap := foldn_m TObject.nxm x.Memory.Heap.Objects (1)
  have hfVarsx_Memory_Scope := foldn_m TBinding.nxm x.Memory.Scope.Vars (foldn TObject.nx x.Memory.Heap.Objects (1))
  have hfFunctionsx_Memory_Scope := foldn_m TFunction.nxm x.Memory.Scope.Functions (foldn TBinding.nx x.Memory.Scope.Vars (foldn TObject.nx x.Memory.Heap.Objects (1)))
  have hfTypesx_Memory_Scope := foldn_m TRecordType.nxm x.Memory.Scope.Types (foldn TFunction.nx x.Memory.Scope.Functions (foldn TBinding.nx x.Memory.Scope.Vars (foldn TObject.nx x.Memory.Heap.Objects (1))))
  have hfInputx_Memory_Console := foldn_one x.Memory.Console.Input (foldn TRecordType.nx x.Memory.Scope.Types (foldn TFunction.nx x.Memory.Scope.Functions (foldn TBinding.nx x.Memory.Scope.Vars (foldn TObject.nx x.Memory.Heap.Objects (1)))))
  have hfOutputx_Memory_Console := foldn_one x.Memory.Console.Output (foldn (fun _ k => k + 1) x.Memory.Console.Input (foldn TRecordType.nx x.Memory.Scope.Types (foldn TFunction.nx x.Memory.Scope.Functions (foldn TBinding.nx x.Memory.Scope.Vars (foldn TObject.nx x.Memory.Heap.Objects (1))))))
  have hfFilesx_Memory_Console := foldn_m TFile.nxm x.Memory.Console.Files (foldn (fun _ k => k + 1) x.Memory.Console.Output (foldn (fun _ k => k + 1) x.Memory.Console.Input (foldn TRecordType.nx x.Memory.Scope.Types (foldn TFunction.nx x.Memory.Scope.Functions (foldn TBinding.nx x.Memory.Scope.Vars (foldn TObject.nx x.Memory.Heap.Objects (1)))))))
  have hfTracex_Memory_Console := foldn_one x.Memory.Console.Trace (foldn TFile.nx x.Memory.Console.Files (foldn (fun _ k => k + 1) x.Memory.Console.Output (foldn (fun _ k => k + 1) x.Memory.Console.Input (foldn TRecordType.nx x.Memory.Scope.Types (foldn TFunction.nx x.Memory.Scope.Functions (foldn TBinding.nx x.Memory.Scope.Vars (foldn TObject.nx x.Memory.Heap.Objects (1))))))))
  have hfStackx := foldn_m TValue.nxm x.Stack (foldn (fun _ k => k + 1) x.Memory.Console.Trace (foldn TFile.nx x.Memory.Console.Files (foldn (fun _ k => k + 1) x.Memory.Console.Output (foldn (fun _ k => k + 1) x.Memory.Console.Input (foldn TRecordType.nx x.Memory.Scope.Types (foldn TFunction.nx x.Memory.Scope.Functions (foldn TBinding.nx x.Memory.Scope.Vars (foldn TObject.nx x.Memory.Heap.Objects (1)))))))))
  have hfFramesx := foldn_m TCallFrame.nxm x.Frames (foldn TValue.nx x.Stack (foldn (fun _ k => k + 1) x.Memory.Console.Trace (foldn TFile.nx x.Memory.Console.Files (foldn (fun _ k => k + 1) x.Memory.Console.Output (foldn (fun _ k => k + 1) x.Memory.Console.Input (foldn TRecordType.nx x.Memory.Scope.Types (foldn TFunction.nx x.Memory.Scope.Functions (foldn TBinding.nx x.Memory.Scope.Vars (foldn TObject.nx x.Memory.Heap.Objects (1))))))))))
  have hn := h
  simp only [TMachine.n, TMemory.n, THeap.n, TScope.n, TConsole.n] at hn
  have hw : TOutcome.n ⟨x.Memory, x.At, x.Steps, x.Code⟩ ≤ 1048576 := by simp only [TOutcome.n, TMemory.n, THeap.n, TScope.n, TConsole.n]; omega
  have e1 := c_eqOutcome ⟨x.Memory, x.At, x.Steps, x.Code⟩ [] hw
  have e2 := c_eqMachine x [] h
  have e3 := c_markMachine x 1 [] h (by omega) (by omega)
  have e4 := c_markOutcome ⟨x.Memory, x.At, x.Steps, x.Code⟩ 1 [] hw (by omega) (by simp only []; omega)
  have e5 := c_heldOutcome ⟨x.Memory, x.At, x.Steps, x.Code⟩ 1 [] hw (by omega) (by simp only []; omega)
  simp only [] at e1 e4 e5
  rw [vcall_go T (g := v9) rfl rfl rfl _ _ rfl]
  simp (maxSteps := 9999999) (disch := omega) only [vx, px, ty, ↓reduceIte, Bool.false_eq_true, reduceCtorEq, Nat.reduceAdd, Nat.reduceSub, Nat.reduceLeDiff, Nat.reduceEqDiff, Nat.reduceLT, Nat.reduceMul, List.reduceReplicate, and_true, true_and, and_false, false_and, and_self, or_true, true_or, or_false, false_or, not_true_eq_false, not_false_eq_true, ne_eq, vxd, Nat.reduceBNe, most, ifT, v9, v9_b, c_szMachine, c_toMachine, c_impl_OutcomeOf, c_spec_OutcomeOf, e1, e2, e3, e4, e5]
end Go.Vx.OcZ
