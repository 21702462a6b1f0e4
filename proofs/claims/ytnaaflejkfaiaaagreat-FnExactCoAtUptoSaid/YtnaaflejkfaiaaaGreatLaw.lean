/-
  The law FnExactCoAt, at the evaluator.
-/
import Derived.Test.YtnaaflejkfaiaaaGreatSz
import Derived.Test.YtnaaflejkfaiaaaGreatTo
import Derived.Test.YtnaaflejkfaiaaaGreatEq
import Derived.Test.YtnaaflejkfaiaaaGreatMark
import Derived.Test.YtnaaflejkfaiaaaGreatHeld
import Derived.Test.YtnaaflejkfaiaaaGreatShA
import Derived.Test.YtnaaflejkfaiaaaGreatShB
import Derived.Test.YtnaaflejkfaiaaaGreatG9
set_option linter.unusedVariables false
set_option linter.unusedSimpArgs false
namespace Go.Vx.CpZ
set_option linter.unusedVariables false
set_option linter.unusedSimpArgs false
set_option maxRecDepth 10000
set_option maxHeartbeats 4000000
theorem law (x0:TGenScope) (x1:Int) (h0:TGenScope.n x0≤1048576) (h1:-9223372036854775808≤x1∧x1<9223372036854775808) (ht:TGenScope.n x0≤1048576):zaa T 4 [D.agg [D.sl false 5 (List.map (TBinding.e false) x0.Vars),D.int .i64 x0.Heap.Next,D.sl false 10 (List.map (TObject.e false) x0.Heap.Objects),D.sl false 17 (List.map (TCoexpr.e false) x0.Cos),D.int .i64 x0.Steps],D.int .i64 x1] []=some (.bool true,[],[]):=by
 obtain ⟨r,hi,hs,hr⟩:=ztA x0 x1 h0 h1 ht
 obtain ⟨_,ei⟩:=(g_i_CoAt x0 x1).h r hi
 obtain ⟨_,es⟩:=(g_s_CoAt x0 x1).h r hs
 clear hi hs
 try simp only [tyd] at ei es
 have hr0:=hr
 have:=zbM TBinding.mn x0.Vars
 have:=zbM TObject.mn x0.Heap.Objects
 have:=zbM TCoexpr.mn x0.Cos
 have:=zbM TGen.mn r.1.Body.Kids
 have:=zbM TBinding.mn r.1.Start
 have:=zbM TBinding.mn r.1.Vars
 have:=zbM TValue.mn r.1.Cursor.Vals
 have:=zbM TCursor.mn r.1.Cursor.Kids
 have:=zak TBinding.nxm x0.Vars (1)
 have:=zak TObject.nxm x0.Heap.Objects (zab TBinding.nx x0.Vars (1))
 have:=zak TCoexpr.nxm x0.Cos (zab TObject.nx x0.Heap.Objects (zab TBinding.nx x0.Vars (1)))
 have:=zak TGen.nxm r.1.Body.Kids (1)
 have:=zak TBinding.nxm r.1.Start (zab TGen.nx r.1.Body.Kids (1))
 have:=zak TBinding.nxm r.1.Vars (zab TBinding.nx r.1.Start (zab TGen.nx r.1.Body.Kids (1)))
 have:=zak TValue.nxm r.1.Cursor.Vals (zab TBinding.nx r.1.Vars (zab TBinding.nx r.1.Start (zab TGen.nx r.1.Body.Kids (1))))
 have:=zak TCursor.nxm r.1.Cursor.Kids (zab TValue.nx r.1.Cursor.Vals (zab TBinding.nx r.1.Vars (zab TBinding.nx r.1.Start (zab TGen.nx r.1.Body.Kids (1)))))
 have hb0:=h0
 try simp only [TCoexpr.n,TCursor.n_eq,TGen.n_eq,TGenScope.n,THeap.n,TValue.n] at hb0
 have htt:=ht
 try simp only [TCoexpr.n,TCursor.n_eq,TGen.n_eq,TGenScope.n,THeap.n,TValue.n] at htt
 have hc0:=hr0
 try simp only [TCoexpr.n,TCursor.n_eq,TGen.n_eq,TGenScope.n,THeap.n,TValue.n] at hc0
 have e0:=zks r.1 [] (by simp only [TCoexpr.n,TCursor.n_eq,TGen.n_eq,TGenScope.n,THeap.n,TValue.n] at *;omega)
 have e1:=zlY x0 [] (by simp only [TCoexpr.n,TCursor.n_eq,TGen.n_eq,TGenScope.n,THeap.n,TValue.n] at *;omega)
 have e2:=zjT x0 (1) [] (by simp only [TCoexpr.n,TCursor.n_eq,TGen.n_eq,TGenScope.n,THeap.n,TValue.n] at *;omega) (by omega) (by (try simp only []);omega)
 have e3:=zmc r.1 (1) [] (by simp only [TCoexpr.n,TCursor.n_eq,TGen.n_eq,TGenScope.n,THeap.n,TValue.n] at *;omega) (by omega) (by (try simp only []);omega)
 have e4:=zmg r.1 (1) [] (by simp only [TCoexpr.n,TCursor.n_eq,TGen.n_eq,TGenScope.n,THeap.n,TValue.n] at *;omega) (by omega) (by (try simp only []);omega)
 skip
 rw [zad T (g:=v4) rfl rfl rfl _ _ rfl]
 simp (maxSteps:=9999999) (disch:=omega) only [vx,px,ty,↓reduceIte,seval,fx,vxd,Nat.reduceBNe,most,ifT,ziA,beq_self_eq_true,Bool.not_true,v4,v4_b,zlQ,zlU,ei,es,e0,e1,e2,e3,e4]
end Go.Vx.CpZ
