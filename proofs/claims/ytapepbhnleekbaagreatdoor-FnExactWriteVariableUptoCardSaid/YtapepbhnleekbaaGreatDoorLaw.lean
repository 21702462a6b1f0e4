/-
  The law FnExactWriteVariable, at the evaluator.
-/
import Derived.Test.YtapepbhnleekbaaGreatDoorSz
import Derived.Test.YtapepbhnleekbaaGreatDoorTo
import Derived.Test.YtapepbhnleekbaaGreatDoorEq
import Derived.Test.YtapepbhnleekbaaGreatDoorMark
import Derived.Test.YtapepbhnleekbaaGreatDoorHeld
import Derived.Test.YtapepbhnleekbaaGreatDoorShA
import Derived.Test.YtapepbhnleekbaaGreatDoorShB
import Derived.Test.YtapepbhnleekbaaGreatDoorKv
set_option linter.unusedVariables false
set_option linter.unusedSimpArgs false
namespace Go.Vx.WvZ
set_option maxRecDepth 10000
set_option maxHeartbeats 4000000
theorem law (x0:TMemory) (x1:ByteArray) (x2:TValue) (h0:TMemory.n x0<=1048576) (h1:x1.size<=1048576) (h2:TValue.n x2<=1048576) (ht:TMemory.n x0 + x1.size + TValue.n x2<=1048576):zab T 3 [D.agg [D.int .i64 x0.Heap.Next,D.sl false 10 (List.map (TObject.e false) x0.Heap.Objects),D.sl false 5 (List.map (TBinding.e false) x0.Scope.Vars),D.sl false 4 (List.map (TFunction.e false) x0.Scope.Functions),D.sl false 2 (List.map (TRecordType.e false) x0.Scope.Types),D.sl false 1 (List.map D.str x0.Console.Input),D.int .i64 x0.Console.At,D.sl false 1 (List.map D.str x0.Console.Output),D.sl false 4 (List.map (TFile.e false) x0.Console.Files),D.sl false 1 (List.map D.str x0.Console.Trace)],D.str x1,D.agg [D.int .i64 x2.Kind,D.int .i64 x2.Num,D.str x2.Text,D.int .i64 x2.Ref]] []=some (.bool true,[],[]):=by
 obtain ⟨r,hi,hs,hr⟩:=zuU x0 x1 x2 h0 h1 h2 ht
 obtain ⟨_,ei⟩:=(g_i_WriteVariable x0 x1 x2).h r hi
 obtain ⟨_,es⟩:=(g_s_WriteVariable x0 x1 x2).h r hs
 clear hi hs
 try simp only [tyd] at ei es
 have hr0:=hr
 have:=zbn TObject.mn x0.Heap.Objects
 have:=zbn TBinding.mn x0.Scope.Vars
 have:=zbn TFunction.mn x0.Scope.Functions
 have:=zbn TRecordType.mn x0.Scope.Types
 have:=zcR ByteArray.size x0.Console.Input
 have:=zcR ByteArray.size x0.Console.Output
 have:=zbn TFile.mn x0.Console.Files
 have:=zcR ByteArray.size x0.Console.Trace
 have:=zbn TObject.mn r.1.Heap.Objects
 have:=zbn TBinding.mn r.1.Scope.Vars
 have:=zbn TFunction.mn r.1.Scope.Functions
 have:=zbn TRecordType.mn r.1.Scope.Types
 have:=zcR ByteArray.size r.1.Console.Input
 have:=zcR ByteArray.size r.1.Console.Output
 have:=zbn TFile.mn r.1.Console.Files
 have:=zcR ByteArray.size r.1.Console.Trace
 have:=zas TObject.nxm x0.Heap.Objects (1)
 have:=zas TBinding.nxm x0.Scope.Vars (zaa TObject.nx x0.Heap.Objects (1))
 have:=zas TFunction.nxm x0.Scope.Functions (zaa TBinding.nx x0.Scope.Vars (zaa TObject.nx x0.Heap.Objects (1)))
 have:=zas TRecordType.nxm x0.Scope.Types (zaa TFunction.nx x0.Scope.Functions (zaa TBinding.nx x0.Scope.Vars (zaa TObject.nx x0.Heap.Objects (1))))
 have:=zat x0.Console.Input (zaa TRecordType.nx x0.Scope.Types (zaa TFunction.nx x0.Scope.Functions (zaa TBinding.nx x0.Scope.Vars (zaa TObject.nx x0.Heap.Objects (1)))))
 have:=zat x0.Console.Output (zaa (fun _ k=>k + 1) x0.Console.Input (zaa TRecordType.nx x0.Scope.Types (zaa TFunction.nx x0.Scope.Functions (zaa TBinding.nx x0.Scope.Vars (zaa TObject.nx x0.Heap.Objects (1))))))
 have:=zas TFile.nxm x0.Console.Files (zaa (fun _ k=>k + 1) x0.Console.Output (zaa (fun _ k=>k + 1) x0.Console.Input (zaa TRecordType.nx x0.Scope.Types (zaa TFunction.nx x0.Scope.Functions (zaa TBinding.nx x0.Scope.Vars (zaa TObject.nx x0.Heap.Objects (1)))))))
 have:=zat x0.Console.Trace (zaa TFile.nx x0.Console.Files (zaa (fun _ k=>k + 1) x0.Console.Output (zaa (fun _ k=>k + 1) x0.Console.Input (zaa TRecordType.nx x0.Scope.Types (zaa TFunction.nx x0.Scope.Functions (zaa TBinding.nx x0.Scope.Vars (zaa TObject.nx x0.Heap.Objects (1))))))))
 have:=zas TObject.nxm r.1.Heap.Objects (1)
 have:=zas TBinding.nxm r.1.Scope.Vars (zaa TObject.nx r.1.Heap.Objects (1))
 have:=zas TFunction.nxm r.1.Scope.Functions (zaa TBinding.nx r.1.Scope.Vars (zaa TObject.nx r.1.Heap.Objects (1)))
 have:=zas TRecordType.nxm r.1.Scope.Types (zaa TFunction.nx r.1.Scope.Functions (zaa TBinding.nx r.1.Scope.Vars (zaa TObject.nx r.1.Heap.Objects (1))))
 have:=zat r.1.Console.Input (zaa TRecordType.nx r.1.Scope.Types (zaa TFunction.nx r.1.Scope.Functions (zaa TBinding.nx r.1.Scope.Vars (zaa TObject.nx r.1.Heap.Objects (1)))))
 have:=zat r.1.Console.Output (zaa (fun _ k=>k + 1) r.1.Console.Input (zaa TRecordType.nx r.1.Scope.Types (zaa TFunction.nx r.1.Scope.Functions (zaa TBinding.nx r.1.Scope.Vars (zaa TObject.nx r.1.Heap.Objects (1))))))
 have:=zas TFile.nxm r.1.Console.Files (zaa (fun _ k=>k + 1) r.1.Console.Output (zaa (fun _ k=>k + 1) r.1.Console.Input (zaa TRecordType.nx r.1.Scope.Types (zaa TFunction.nx r.1.Scope.Functions (zaa TBinding.nx r.1.Scope.Vars (zaa TObject.nx r.1.Heap.Objects (1)))))))
 have:=zat r.1.Console.Trace (zaa TFile.nx r.1.Console.Files (zaa (fun _ k=>k + 1) r.1.Console.Output (zaa (fun _ k=>k + 1) r.1.Console.Input (zaa TRecordType.nx r.1.Scope.Types (zaa TFunction.nx r.1.Scope.Functions (zaa TBinding.nx r.1.Scope.Vars (zaa TObject.nx r.1.Heap.Objects (1))))))))
 have hb0:=h0
 try simp only [TConsole.n,THeap.n,TMemory.n,TScope.n,TValue.n] at hb0
 have hb2:=h2
 try simp only [TConsole.n,THeap.n,TMemory.n,TScope.n,TValue.n] at hb2
 have htt:=ht
 try simp only [TConsole.n,THeap.n,TMemory.n,TScope.n,TValue.n] at htt
 have hc0:=hr0
 try simp only [TConsole.n,THeap.n,TMemory.n,TScope.n,TValue.n] at hc0
 have e0:=zkL r.1 [] (by simp only [TConsole.n,THeap.n,TMemory.n,TScope.n,TValue.n] at *;omega)
 have e1:=zkL x0 [] (by simp only [TConsole.n,THeap.n,TMemory.n,TScope.n,TValue.n] at *;omega)
 have e2:=ziF x0 (1) [] (by simp only [TConsole.n,THeap.n,TMemory.n,TScope.n,TValue.n] at *;omega) (by omega) (by (try simp only []);omega)
 have e3:=ziF r.1 (1) [] (by simp only [TConsole.n,THeap.n,TMemory.n,TScope.n,TValue.n] at *;omega) (by omega) (by (try simp only []);omega)
 have e4:=zmS r.1 (1) [] (by simp only [TConsole.n,THeap.n,TMemory.n,TScope.n,TValue.n] at *;omega) (by omega) (by (try simp only []);omega)
 skip
 rw [zac T (g:=v3) rfl rfl rfl _ _ rfl]
 simp (maxSteps:=9999999) (disch:=omega) only [vx,px,ty,↓reduceIte,seval,fx,vxd,Nat.reduceBNe,most,ifT,ziE,beq_self_eq_true,Bool.not_true,v3,v3_b,zpZ,zhT,zqd,zhU,ei,es,e0,e1,e2,e3,e4]
end Go.Vx.WvZ

