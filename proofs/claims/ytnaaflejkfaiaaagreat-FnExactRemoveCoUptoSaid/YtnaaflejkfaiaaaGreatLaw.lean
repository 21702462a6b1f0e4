/-
  The law FnExactRemoveCo, at the evaluator.
-/
import Derived.Test.YtnaaflejkfaiaaaGreatSz
import Derived.Test.YtnaaflejkfaiaaaGreatTo
import Derived.Test.YtnaaflejkfaiaaaGreatEq
import Derived.Test.YtnaaflejkfaiaaaGreatMark
import Derived.Test.YtnaaflejkfaiaaaGreatHeld
import Derived.Test.YtnaaflejkfaiaaaGreatShA
import Derived.Test.YtnaaflejkfaiaaaGreatShB
import Derived.Test.YtnaaflejkfaiaaaGreatKm
set_option linter.unusedVariables false
set_option linter.unusedSimpArgs false
namespace Go.Vx.RmZ
set_option maxRecDepth 10000
set_option maxHeartbeats 4000000
theorem law (x0:TGenScope) (x1:Int) (h0:TGenScope.n x0<=1048576) (h1:-9223372036854775808<=x1∧x1<9223372036854775808) (ht:TGenScope.n x0<=1048576):zaa T 6 [D.agg [D.sl false 5 (List.map (TBinding.e false) x0.Vars),D.int .i64 x0.Heap.Next,D.sl false 10 (List.map (TObject.e false) x0.Heap.Objects),D.sl false 17 (List.map (TCoexpr.e false) x0.Cos),D.int .i64 x0.Steps],D.int .i64 x1] []=some (.bool true,[],[]):=by
 obtain ⟨r,s,hi,hs,hrs,hr⟩:=zuZ x0 x1 h0 h1 ht
 obtain ⟨_,ei⟩:=(g_i_RemoveCo x0 x1).h r hi
 have es0:=(g_s_RemoveCo x0 x1).h s hs
 clear hi hs
 try simp only [tyd] at ei
 rcases s with s|s
 ·simp only [Sum.elim_inl,Sum.elim_inr,id] at hrs
  subst hrs
  obtain ⟨_,es⟩:=es0
  try simp only [tyd] at es
  have hr0:=hr
  have:=zbr TBinding.mn x0.Vars
  have:=zbr TObject.mn x0.Heap.Objects
  have:=zbr TCoexpr.mn x0.Cos
  have:=zbr TBinding.mn r.1.Vars
  have:=zbr TObject.mn r.1.Heap.Objects
  have:=zbr TCoexpr.mn r.1.Cos
  have:=zao TBinding.nxm x0.Vars (1)
  have:=zao TObject.nxm x0.Heap.Objects (zab TBinding.nx x0.Vars (1))
  have:=zao TCoexpr.nxm x0.Cos (zab TObject.nx x0.Heap.Objects (zab TBinding.nx x0.Vars (1)))
  have:=zao TBinding.nxm r.1.Vars (1)
  have:=zao TObject.nxm r.1.Heap.Objects (zab TBinding.nx r.1.Vars (1))
  have:=zao TCoexpr.nxm r.1.Cos (zab TObject.nx r.1.Heap.Objects (zab TBinding.nx r.1.Vars (1)))
  have hb0:=h0
  try simp only [TGenScope.n,THeap.n] at hb0
  have htt:=ht
  try simp only [TGenScope.n,THeap.n] at htt
  have hc0:=hr0
  try simp only [TGenScope.n,THeap.n] at hc0
  have e0:=zfR r.1 [] (by simp only [TGenScope.n,THeap.n] at *;omega)
  have e1:=zfR x0 [] (by simp only [TGenScope.n,THeap.n] at *;omega)
  have e2:=zeT x0 (1) [] (by simp only [TGenScope.n,THeap.n] at *;omega) (by omega) (by (try simp only []);omega)
  have e3:=zeT r.1 (1) [] (by simp only [TGenScope.n,THeap.n] at *;omega) (by omega) (by (try simp only []);omega)
  have e4:=zhQ r.1 (1) [] (by simp only [TGenScope.n,THeap.n] at *;omega) (by omega) (by (try simp only []);omega)
  skip
  rw [zaf T (g:=v6) rfl rfl rfl _ _ rfl]
  simp (maxSteps:=9999999) (disch:=omega) only [vx,px,ty,↓reduceIte,seval,fx,vxd,Nat.reduceBNe,most,ifT,zhc,beq_self_eq_true,Bool.not_true,v6,v6_b,zjj,zjn,ei,es,e0,e1,e2,e3,e4]
 ·simp only [Sum.elim_inl,Sum.elim_inr,id] at hrs
  subst hrs
  obtain ⟨_,es⟩:=es0
  try simp only [tyd] at es
  have hr0:=hr
  have:=zbr TBinding.mn x0.Vars
  have:=zbr TObject.mn x0.Heap.Objects
  have:=zbr TCoexpr.mn x0.Cos
  have:=zbr TBinding.mn r.1.Vars
  have:=zbr TObject.mn r.1.Heap.Objects
  have:=zbr TCoexpr.mn r.1.Cos
  have:=zao TBinding.nxm x0.Vars (1)
  have:=zao TObject.nxm x0.Heap.Objects (zab TBinding.nx x0.Vars (1))
  have:=zao TCoexpr.nxm x0.Cos (zab TObject.nx x0.Heap.Objects (zab TBinding.nx x0.Vars (1)))
  have:=zao TBinding.nxm r.1.Vars (1)
  have:=zao TObject.nxm r.1.Heap.Objects (zab TBinding.nx r.1.Vars (1))
  have:=zao TCoexpr.nxm r.1.Cos (zab TObject.nx r.1.Heap.Objects (zab TBinding.nx r.1.Vars (1)))
  have hb0:=h0
  try simp only [TGenScope.n,THeap.n] at hb0
  have htt:=ht
  try simp only [TGenScope.n,THeap.n] at htt
  have hc0:=hr0
  try simp only [TGenScope.n,THeap.n] at hc0
  have e0:=zfR r.1 [] (by simp only [TGenScope.n,THeap.n] at *;omega)
  have e1:=zfR x0 [] (by simp only [TGenScope.n,THeap.n] at *;omega)
  have e2:=zeT x0 (1) [] (by simp only [TGenScope.n,THeap.n] at *;omega) (by omega) (by (try simp only []);omega)
  have e3:=zeT r.1 (1) [] (by simp only [TGenScope.n,THeap.n] at *;omega) (by omega) (by (try simp only []);omega)
  have e4:=zhQ r.1 (1) [] (by simp only [TGenScope.n,THeap.n] at *;omega) (by omega) (by (try simp only []);omega)
  skip
  rw [zaf T (g:=v6) rfl rfl rfl _ _ rfl]
  simp (maxSteps:=9999999) (disch:=omega) only [vx,px,ty,↓reduceIte,seval,fx,vxd,Nat.reduceBNe,most,ifT,zhc,beq_self_eq_true,Bool.not_true,v6,v6_b,zjj,zjn,ei,es,e0,e1,e2,e3,e4]
end Go.Vx.RmZ

