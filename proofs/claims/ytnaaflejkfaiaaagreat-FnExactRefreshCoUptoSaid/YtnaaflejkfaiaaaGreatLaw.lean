/-
  The law FnExactRefreshCo, at the evaluator.
-/
import Derived.Test.YtnaaflejkfaiaaaGreatSz
import Derived.Test.YtnaaflejkfaiaaaGreatTo
import Derived.Test.YtnaaflejkfaiaaaGreatEq
import Derived.Test.YtnaaflejkfaiaaaGreatMark
import Derived.Test.YtnaaflejkfaiaaaGreatHeld
import Derived.Test.YtnaaflejkfaiaaaGreatShA
import Derived.Test.YtnaaflejkfaiaaaGreatShB
import Derived.Test.YtnaaflejkfaiaaaGreatKf
set_option linter.unusedVariables false
set_option linter.unusedSimpArgs false
namespace Go.Vx.RfZ
set_option linter.unusedVariables false
set_option linter.unusedSimpArgs false
set_option maxRecDepth 10000
set_option maxHeartbeats 4000000
theorem law (x0:TGenScope) (x1:Int) (h0:TGenScope.n x0≤1048576) (h1:-9223372036854775808≤x1∧x1<9223372036854775808) (ht:TGenScope.n x0≤1048576):zaa T 7 [D.agg [D.sl false 5 (List.map (TBinding.e false) x0.Vars),D.int .i64 x0.Heap.Next,D.sl false 10 (List.map (TObject.e false) x0.Heap.Objects),D.sl false 17 (List.map (TCoexpr.e false) x0.Cos),D.int .i64 x0.Steps],D.int .i64 x1] []=some (.bool true,[],[]):=by
 obtain ⟨r,hi,hs,hr⟩:=zuh x0 x1 h0 h1 ht
 obtain ⟨_,ei⟩:=(g_i_RefreshCo x0 x1).h r hi
 obtain ⟨_,es⟩:=(g_s_RefreshCo x0 x1).h r hs
 clear hi hs
 try simp only [tyd] at ei es
 have hr0:=hr
 have:=zch TBinding.mn x0.Vars
 have:=zch TObject.mn x0.Heap.Objects
 have:=zch TCoexpr.mn x0.Cos
 have:=zch TBinding.mn r.1.Vars
 have:=zch TObject.mn r.1.Heap.Objects
 have:=zch TCoexpr.mn r.1.Cos
 have:=zar TBinding.nxm x0.Vars (1)
 have:=zar TObject.nxm x0.Heap.Objects (zab TBinding.nx x0.Vars (1))
 have:=zar TCoexpr.nxm x0.Cos (zab TObject.nx x0.Heap.Objects (zab TBinding.nx x0.Vars (1)))
 have:=zar TBinding.nxm r.1.Vars (1)
 have:=zar TObject.nxm r.1.Heap.Objects (zab TBinding.nx r.1.Vars (1))
 have:=zar TCoexpr.nxm r.1.Cos (zab TObject.nx r.1.Heap.Objects (zab TBinding.nx r.1.Vars (1)))
 have hb0:=h0
 try simp only [TGenScope.n,THeap.n] at hb0
 have htt:=ht
 try simp only [TGenScope.n,THeap.n] at htt
 have hc0:=hr0
 try simp only [TGenScope.n,THeap.n] at hc0
 have e0:=zjg r.1 [] (by simp only [TGenScope.n,THeap.n] at *;omega)
 have e1:=zjg x0 [] (by simp only [TGenScope.n,THeap.n] at *;omega)
 have e2:=zhG x0 (1) [] (by simp only [TGenScope.n,THeap.n] at *;omega) (by omega) (by (try simp only []);omega)
 have e3:=zhG r.1 (1) [] (by simp only [TGenScope.n,THeap.n] at *;omega) (by omega) (by (try simp only []);omega)
 have e4:=zkq r.1 (1) [] (by simp only [TGenScope.n,THeap.n] at *;omega) (by omega) (by (try simp only []);omega)
 skip
 rw [zad T (g:=v7) rfl rfl rfl _ _ rfl]
 simp (maxSteps:=9999999) (disch:=omega) only [vx,px,ty,↓reduceIte,seval,fx,vxd,Nat.reduceBNe,most,ifT,ziW,beq_self_eq_true,Bool.not_true,v7,v7_b,zmq,zmu,ei,es,e0,e1,e2,e3,e4]
end Go.Vx.RfZ
