/-
  The law FnExactCollectMemory, at the evaluator.
-/
import Derived.Test.YtdhpbbopmlppfaaGreatSz
import Derived.Test.YtdhpbbopmlppfaaGreatTo
import Derived.Test.YtdhpbbopmlppfaaGreatEq
import Derived.Test.YtdhpbbopmlppfaaGreatMark
import Derived.Test.YtdhpbbopmlppfaaGreatHeld
import Derived.Test.YtdhpbbopmlppfaaGreatShA
import Derived.Test.YtdhpbbopmlppfaaGreatShB
import Derived.Test.YtdhpbbopmlppfaaGreatKg
set_option linter.unusedVariables false
set_option linter.unusedSimpArgs false
namespace Go.Vx.CmZ
set_option linter.unusedVariables false
set_option linter.unusedSimpArgs false
set_option maxRecDepth 10000
set_option maxHeartbeats 4000000
theorem law (x0:TMemory) (h0:TMemory.n x0≤1048576) (ht:TMemory.n x0≤1048576):zab T 3 [D.agg [D.int .i64 x0.Heap.Next,D.sl false 10 (List.map (TObject.e false) x0.Heap.Objects),D.sl false 5 (List.map (TBinding.e false) x0.Scope.Vars),D.sl false 4 (List.map (TFunction.e false) x0.Scope.Functions),D.sl false 2 (List.map (TRecordType.e false) x0.Scope.Types),D.sl false 1 (List.map D.str x0.Console.Input),D.int .i64 x0.Console.At,D.sl false 1 (List.map D.str x0.Console.Output),D.sl false 4 (List.map (TFile.e false) x0.Console.Files),D.sl false 1 (List.map D.str x0.Console.Trace)]] []=some (.bool true,[],[]):=by
 obtain ⟨r,hi,hs,hr⟩:=zun x0 h0 ht
 obtain ⟨_,ei⟩:=(g_i_CollectMemory x0).h r hi
 obtain ⟨_,es⟩:=(g_s_CollectMemory x0).h r hs
 clear hi hs
 try simp only [tyd] at ei es
 have hr0:=hr
 have:=zbp TObject.mn x0.Heap.Objects
 have:=zbp TBinding.mn x0.Scope.Vars
 have:=zbp TFunction.mn x0.Scope.Functions
 have:=zbp TRecordType.mn x0.Scope.Types
 have:=zcU ByteArray.size x0.Console.Input
 have:=zcU ByteArray.size x0.Console.Output
 have:=zbp TFile.mn x0.Console.Files
 have:=zcU ByteArray.size x0.Console.Trace
 have:=zbp TObject.mn r.1.Heap.Objects
 have:=zbp TBinding.mn r.1.Scope.Vars
 have:=zbp TFunction.mn r.1.Scope.Functions
 have:=zbp TRecordType.mn r.1.Scope.Types
 have:=zcU ByteArray.size r.1.Console.Input
 have:=zcU ByteArray.size r.1.Console.Output
 have:=zbp TFile.mn r.1.Console.Files
 have:=zcU ByteArray.size r.1.Console.Trace
 have:=zap TObject.nxm x0.Heap.Objects (1)
 have:=zap TBinding.nxm x0.Scope.Vars (zaa TObject.nx x0.Heap.Objects (1))
 have:=zap TFunction.nxm x0.Scope.Functions (zaa TBinding.nx x0.Scope.Vars (zaa TObject.nx x0.Heap.Objects (1)))
 have:=zap TRecordType.nxm x0.Scope.Types (zaa TFunction.nx x0.Scope.Functions (zaa TBinding.nx x0.Scope.Vars (zaa TObject.nx x0.Heap.Objects (1))))
 have:=zaq x0.Console.Input (zaa TRecordType.nx x0.Scope.Types (zaa TFunction.nx x0.Scope.Functions (zaa TBinding.nx x0.Scope.Vars (zaa TObject.nx x0.Heap.Objects (1)))))
 have:=zaq x0.Console.Output (zaa (fun _ k=>k + 1) x0.Console.Input (zaa TRecordType.nx x0.Scope.Types (zaa TFunction.nx x0.Scope.Functions (zaa TBinding.nx x0.Scope.Vars (zaa TObject.nx x0.Heap.Objects (1))))))
 have:=zap TFile.nxm x0.Console.Files (zaa (fun _ k=>k + 1) x0.Console.Output (zaa (fun _ k=>k + 1) x0.Console.Input (zaa TRecordType.nx x0.Scope.Types (zaa TFunction.nx x0.Scope.Functions (zaa TBinding.nx x0.Scope.Vars (zaa TObject.nx x0.Heap.Objects (1)))))))
 have:=zaq x0.Console.Trace (zaa TFile.nx x0.Console.Files (zaa (fun _ k=>k + 1) x0.Console.Output (zaa (fun _ k=>k + 1) x0.Console.Input (zaa TRecordType.nx x0.Scope.Types (zaa TFunction.nx x0.Scope.Functions (zaa TBinding.nx x0.Scope.Vars (zaa TObject.nx x0.Heap.Objects (1))))))))
 have:=zap TObject.nxm r.1.Heap.Objects (1)
 have:=zap TBinding.nxm r.1.Scope.Vars (zaa TObject.nx r.1.Heap.Objects (1))
 have:=zap TFunction.nxm r.1.Scope.Functions (zaa TBinding.nx r.1.Scope.Vars (zaa TObject.nx r.1.Heap.Objects (1)))
 have:=zap TRecordType.nxm r.1.Scope.Types (zaa TFunction.nx r.1.Scope.Functions (zaa TBinding.nx r.1.Scope.Vars (zaa TObject.nx r.1.Heap.Objects (1))))
 have:=zaq r.1.Console.Input (zaa TRecordType.nx r.1.Scope.Types (zaa TFunction.nx r.1.Scope.Functions (zaa TBinding.nx r.1.Scope.Vars (zaa TObject.nx r.1.Heap.Objects (1)))))
 have:=zaq r.1.Console.Output (zaa (fun _ k=>k + 1) r.1.Console.Input (zaa TRecordType.nx r.1.Scope.Types (zaa TFunction.nx r.1.Scope.Functions (zaa TBinding.nx r.1.Scope.Vars (zaa TObject.nx r.1.Heap.Objects (1))))))
 have:=zap TFile.nxm r.1.Console.Files (zaa (fun _ k=>k + 1) r.1.Console.Output (zaa (fun _ k=>k + 1) r.1.Console.Input (zaa TRecordType.nx r.1.Scope.Types (zaa TFunction.nx r.1.Scope.Functions (zaa TBinding.nx r.1.Scope.Vars (zaa TObject.nx r.1.Heap.Objects (1)))))))
 have:=zaq r.1.Console.Trace (zaa TFile.nx r.1.Console.Files (zaa (fun _ k=>k + 1) r.1.Console.Output (zaa (fun _ k=>k + 1) r.1.Console.Input (zaa TRecordType.nx r.1.Scope.Types (zaa TFunction.nx r.1.Scope.Functions (zaa TBinding.nx r.1.Scope.Vars (zaa TObject.nx r.1.Heap.Objects (1))))))))
 have hb0:=h0
 try simp only [TConsole.n,THeap.n,TMemory.n,TScope.n] at hb0
 have htt:=ht
 try simp only [TConsole.n,THeap.n,TMemory.n,TScope.n] at htt
 have hc0:=hr0
 try simp only [TConsole.n,THeap.n,TMemory.n,TScope.n] at hc0
 have e0:=zkr r.1 [] (by simp only [TConsole.n,THeap.n,TMemory.n,TScope.n] at *;omega)
 have e1:=zkr x0 [] (by simp only [TConsole.n,THeap.n,TMemory.n,TScope.n] at *;omega)
 have e2:=ziA x0 (1) [] (by simp only [TConsole.n,THeap.n,TMemory.n,TScope.n] at *;omega) (by omega) (by (try simp only []);omega)
 have e3:=ziA r.1 (1) [] (by simp only [TConsole.n,THeap.n,TMemory.n,TScope.n] at *;omega) (by omega) (by (try simp only []);omega)
 have e4:=zmr r.1 (1) [] (by simp only [TConsole.n,THeap.n,TMemory.n,TScope.n] at *;omega) (by omega) (by (try simp only []);omega)
 skip
 rw [zac T (g:=v3) rfl rfl rfl _ _ rfl]
 simp (maxSteps:=9999999) (disch:=omega) only [vx,px,ty,↓reduceIte,seval,fx,vxd,Nat.reduceBNe,most,ifT,ziz,beq_self_eq_true,Bool.not_true,v3,v3_b,zps,zpw,ei,es,e0,e1,e2,e3,e4]
end Go.Vx.CmZ
