/-
  The law FnExactCreateCo, at the evaluator.
-/
import Derived.Test.YtnaaflejkfaiaaaGreatSz
import Derived.Test.YtnaaflejkfaiaaaGreatTo
import Derived.Test.YtnaaflejkfaiaaaGreatEq
import Derived.Test.YtnaaflejkfaiaaaGreatMark
import Derived.Test.YtnaaflejkfaiaaaGreatHeld
import Derived.Test.YtnaaflejkfaiaaaGreatShA
import Derived.Test.YtnaaflejkfaiaaaGreatShB
import Derived.Test.YtnaaflejkfaiaaaGreatKc
set_option linter.unusedVariables false
set_option linter.unusedSimpArgs false
namespace Go.Vx.CrZ
set_option linter.unusedVariables false
set_option linter.unusedSimpArgs false
set_option maxRecDepth 10000
set_option maxHeartbeats 4000000
theorem law (x0:TGenScope) (x1:TGen) (h0:TGenScope.n x0≤1048576) (h1:TGen.n x1≤1048576) (ht:TGenScope.n x0 + TGen.n x1≤1048576):zaa T 5 [D.agg [D.sl false 5 (List.map (TBinding.e false) x0.Vars),D.int .i64 x0.Heap.Next,D.sl false 10 (List.map (TObject.e false) x0.Heap.Objects),D.sl false 17 (List.map (TCoexpr.e false) x0.Cos),D.int .i64 x0.Steps],D.agg [D.int .i64 x1.Kind,D.int .i64 x1.Num,D.str x1.Text,D.int .i64 x1.Value.Kind,D.int .i64 x1.Value.Num,D.str x1.Value.Text,D.int .i64 x1.Value.Ref,D.sl false 8 (List.map (TGen.e false) x1.Kids)]] []=some (.bool true,[],[]):=by
 obtain ⟨r,hi,hs,hr⟩:=zua x0 x1 h0 h1 ht
 obtain ⟨_,ei⟩:=(g_i_CreateCo x0 x1).h r hi
 obtain ⟨_,es⟩:=(g_s_CreateCo x0 x1).h r hs
 clear hi hs
 try simp only [tyd] at ei es
 have hr0:=hr
 have:=zbZ TBinding.mn x0.Vars
 have:=zbZ TObject.mn x0.Heap.Objects
 have:=zbZ TCoexpr.mn x0.Cos
 have:=zbZ TGen.mn x1.Kids
 have:=zbZ TBinding.mn r.1.Vars
 have:=zbZ TObject.mn r.1.Heap.Objects
 have:=zbZ TCoexpr.mn r.1.Cos
 have:=zap TBinding.nxm x0.Vars (1)
 have:=zap TObject.nxm x0.Heap.Objects (zab TBinding.nx x0.Vars (1))
 have:=zap TCoexpr.nxm x0.Cos (zab TObject.nx x0.Heap.Objects (zab TBinding.nx x0.Vars (1)))
 have:=zap TGen.nxm x1.Kids (zab TCoexpr.nx x0.Cos (zab TObject.nx x0.Heap.Objects (zab TBinding.nx x0.Vars (1))))
 have:=zap TBinding.nxm r.1.Vars (1)
 have:=zap TObject.nxm r.1.Heap.Objects (zab TBinding.nx r.1.Vars (1))
 have:=zap TCoexpr.nxm r.1.Cos (zab TObject.nx r.1.Heap.Objects (zab TBinding.nx r.1.Vars (1)))
 have hb0:=h0
 try simp only [TGen.n_eq,TGenScope.n,THeap.n,TValue.n] at hb0
 have hb1:=h1
 try simp only [TGen.n_eq,TGenScope.n,THeap.n,TValue.n] at hb1
 have htt:=ht
 try simp only [TGen.n_eq,TGenScope.n,THeap.n,TValue.n] at htt
 have hc0:=hr0
 try simp only [TGen.n_eq,TGenScope.n,THeap.n,TValue.n] at hc0
 have e0:=zjd r.1 [] (by simp only [TGen.n_eq,TGenScope.n,THeap.n,TValue.n] at *;omega)
 have e1:=zjd x0 [] (by simp only [TGen.n_eq,TGenScope.n,THeap.n,TValue.n] at *;omega)
 have e2:=zls x1 [] (by simp only [TGen.n_eq,TGenScope.n,THeap.n,TValue.n] at *;omega)
 have e3:=zhE x0 (1) [] (by simp only [TGen.n_eq,TGenScope.n,THeap.n,TValue.n] at *;omega) (by omega) (by (try simp only []);omega)
 have e4:=zsH x1 (zab TCoexpr.nx x0.Cos (zab TObject.nx x0.Heap.Objects (zab TBinding.nx x0.Vars (1)))) [] (by simp only [TGen.n_eq,TGenScope.n,THeap.n,TValue.n] at *;omega) (by omega) (by (try simp only []);omega)
 have e5:=zhE r.1 (1) [] (by simp only [TGen.n_eq,TGenScope.n,THeap.n,TValue.n] at *;omega) (by omega) (by (try simp only []);omega)
 have e6:=zko r.1 (1) [] (by simp only [TGen.n_eq,TGenScope.n,THeap.n,TValue.n] at *;omega) (by omega) (by (try simp only []);omega)
 skip
 rw [zad T (g:=v5) rfl rfl rfl _ _ rfl]
 simp (maxSteps:=9999999) (disch:=omega) only [vx,px,ty,↓reduceIte,seval,fx,vxd,Nat.reduceBNe,most,ifT,ziT,beq_self_eq_true,Bool.not_true,v5,v5_b,zlq,zmp,zlr,zmt,ei,es,e0,e1,e2,e3,e4,e5,e6]
end Go.Vx.CrZ
