/-
  The law FnExactNewMemory, at the evaluator.
-/
import Derived.Test.YtnaaflejkfaiaaaGreatSz
import Derived.Test.YtnaaflejkfaiaaaGreatTo
import Derived.Test.YtnaaflejkfaiaaaGreatEq
import Derived.Test.YtnaaflejkfaiaaaGreatMark
import Derived.Test.YtnaaflejkfaiaaaGreatHeld
import Derived.Test.YtnaaflejkfaiaaaGreatShB
import Derived.Test.YtnaaflejkfaiaaaGreatM9
set_option linter.unusedVariables false
set_option linter.unusedSimpArgs false
namespace Go.Vx.NmZ
set_option linter.unusedVariables false
set_option linter.unusedSimpArgs false
set_option maxRecDepth 10000
set_option maxHeartbeats 4000000
theorem law (x0 : List ByteArray) (h0 : x0.length + lsum ByteArray.size x0 ≤ 1048576) (ht : (x0.length + lsum ByteArray.size x0) ≤ 1048576) : zab T 3 [D.sl false 1 (List.map D.str x0)] [] = some (.bool true, [], []) := by
 obtain ⟨r, hi, hs, hr⟩ := zwU x0 h0 ht
 obtain ⟨_, ei⟩ := zql x0 r hi
 obtain ⟨_, es⟩ := zqg x0 r hs
 clear hi hs
 try simp only [] at ei es
 have hr0 := hr
 have := zeb ByteArray.size x0
 have := zcA TObject.mn r.1.Heap.Objects
 have := zcA TBinding.mn r.1.Scope.Vars
 have := zcA TFunction.mn r.1.Scope.Functions
 have := zcA TRecordType.mn r.1.Scope.Types
 have := zeb ByteArray.size r.1.Console.Input
 have := zeb ByteArray.size r.1.Console.Output
 have := zcA TFile.mn r.1.Console.Files
 have := zeb ByteArray.size r.1.Console.Trace
 have := zaq x0 (1)
 have := zau TObject.nxm r.1.Heap.Objects (1)
 have := zau TBinding.nxm r.1.Scope.Vars (zaa TObject.nx r.1.Heap.Objects (1))
 have := zau TFunction.nxm r.1.Scope.Functions (zaa TBinding.nx r.1.Scope.Vars (zaa TObject.nx r.1.Heap.Objects (1)))
 have := zau TRecordType.nxm r.1.Scope.Types (zaa TFunction.nx r.1.Scope.Functions (zaa TBinding.nx r.1.Scope.Vars (zaa TObject.nx r.1.Heap.Objects (1))))
 have := zaq r.1.Console.Input (zaa TRecordType.nx r.1.Scope.Types (zaa TFunction.nx r.1.Scope.Functions (zaa TBinding.nx r.1.Scope.Vars (zaa TObject.nx r.1.Heap.Objects (1)))))
 have := zaq r.1.Console.Output (zaa (fun _ k => k + 1) r.1.Console.Input (zaa TRecordType.nx r.1.Scope.Types (zaa TFunction.nx r.1.Scope.Functions (zaa TBinding.nx r.1.Scope.Vars (zaa TObject.nx r.1.Heap.Objects (1))))))
 have := zau TFile.nxm r.1.Console.Files (zaa (fun _ k => k + 1) r.1.Console.Output (zaa (fun _ k => k + 1) r.1.Console.Input (zaa TRecordType.nx r.1.Scope.Types (zaa TFunction.nx r.1.Scope.Functions (zaa TBinding.nx r.1.Scope.Vars (zaa TObject.nx r.1.Heap.Objects (1)))))))
 have := zaq r.1.Console.Trace (zaa TFile.nx r.1.Console.Files (zaa (fun _ k => k + 1) r.1.Console.Output (zaa (fun _ k => k + 1) r.1.Console.Input (zaa TRecordType.nx r.1.Scope.Types (zaa TFunction.nx r.1.Scope.Functions (zaa TBinding.nx r.1.Scope.Vars (zaa TObject.nx r.1.Heap.Objects (1))))))))
 have hb0 := h0
 try simp only [TConsole.n, THeap.n, TMemory.n, TScope.n] at hb0
 have htt := ht
 try simp only [TConsole.n, THeap.n, TMemory.n, TScope.n] at htt
 have hc0 := hr0
 try simp only [TConsole.n, THeap.n, TMemory.n, TScope.n] at hc0
 have e0 := zue r.1 [] (by simp only [TConsole.n, THeap.n, TMemory.n, TScope.n] at *; omega)
 have e1 := zfK x0 [] (by omega) (by omega)
 have e2 := zec x0 (1) [] (by omega) (by omega) (by omega) (by omega)
 have e3 := zqZ r.1 (1) [] (by simp only [TConsole.n, THeap.n, TMemory.n, TScope.n] at *; omega) (by omega) (by (try simp only []); omega)
 have e4 := zrc r.1 (1) [] (by simp only [TConsole.n, THeap.n, TMemory.n, TScope.n] at *; omega) (by omega) (by (try simp only []); omega)
 skip
 rw [zag T (g := v3) rfl rfl rfl _ _ rfl]
 simp (maxSteps := 9999999) (disch := omega) only [vx, px, ty, ↓reduceIte, seval, fx, vxd, Nat.reduceBNe, most, ifT, zlk, beq_self_eq_true, Bool.not_true, v3, v3_b, zsf, zsh, ei, es, e0, e1, e2, e3, e4]
end Go.Vx.NmZ
