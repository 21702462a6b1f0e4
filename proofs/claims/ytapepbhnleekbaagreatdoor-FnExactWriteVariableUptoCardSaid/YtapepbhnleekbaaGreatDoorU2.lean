/-
  Memories that are valid, both sides.
-/
import Derived.Test.YtapepbhnleekbaaGreatDoorU1
import Derived.Test.YtapepbhnleekbaaGreatDoorH4g
set_option linter.unusedVariables false
set_option linter.unusedSimpArgs false
namespace Go.Vx.WvZ
open Classical
def zjV (x:TScope):List TValue:=x.Vars.map TBinding.Value
theorem zkN (xs:List TBinding) (hx:xs.length<=1048576) (L:List TValue->Int->Option (List TValue))
  (hL:∀ c i,L c i=if i<(xs.length:Int) then (idx xs i >>= fun a=>app c [a.Value] >>= fun d=>L d (IntKind.wrap .i64 (i + 1))) else some c):L [] 0=some (xs.map TBinding.Value):=by
 have key:=zbD xs (fun i rest=>∀ c:List TValue,c.length=i->L c (i:Int)=some (c++rest.map TBinding.Value)) ?_ ?_
 ·have:=key [] rfl
  rwa [show ((0:Nat):Int)=0 from rfl] at this
 ·intro c hc;rw [hL,if_neg (by omega)];simp
 ·intro i a rest hi hg hd ih c hc
  rw [hL,if_pos (by omega),zao,hg]
  simp only [Option.bind_eq_bind,Option.bind_some]
  rw [zcx (by unfold most;simp only [List.length_cons,List.length_nil];omega)]
  simp only [Option.bind_some]
  rw [w64 (by omega) (by omega),show ((i:Int) + 1)=((i + 1:Nat):Int) by omega,ih (c++[a.Value]) (by simp [hc])]
  simp
theorem zzI (x:TScope) (h:x.Vars.length<=1048576):zeG x=some (zjV x):=by
 unfold zeG
 rw [zkN x.Vars h (fun c i=>zdn x x.Vars x.Vars.length c i) (fun c i=>zdn.eq_1 ..)]
 rfl
theorem zzJ (x:TScope) (h:TScope.n x<=1048576) (hv:zbB x):zfp x=some (zjV x):=by
 unfold zfp
 rw [zgM x h,zkN x.Vars (by have:=hv.1.1;omega) (fun c i=>zdH x c i) (fun c i=>zdH.eq_1 ..)]
 simp only [Option.bind_eq_bind,Option.bind_some,decide_eq_true hv,if_true]
 rfl
theorem zuK (x:THeap) (h:THeap.n x<=1048576) (hl:x.Objects.length<=1048576) (hH:zhw x) (vs:List TValue) (hv:vs.length<=1048576):zhO x vs=some (decide (∀ v ∈ vs,FitP x.Objects v)):=by
 unfold zhO
 have key:zek vs x 0=if (vs.all fun v=>decide (FitP x.Objects v))=true then some (.inl ()) else some (.inr false):=by
  refine zbu vs vs.length (zek vs x) (fun v=>zeT x v) (fun v=>decide (FitP x.Objects v)) (fun i=>zek.eq_1 ..) rfl (by omega) (fun v _=>?_)
  unfold zeT
  rw [zlU x h,zia x v hl]
  simp only [Option.bind_eq_bind,Option.bind_some,decide_eq_true hH,if_true]
 rw [key,zmW]
 by_cases hS:∀ v ∈ vs,FitP x.Objects v
 ·rw [if_pos (decide_eq_true hS),decide_eq_true hS]
  simp only [Option.bind_eq_bind,Option.bind_some]
  unfold zfb
  rw [zlU x h,decide_eq_true hH];rfl
 ·rw [if_neg (by rw [decide_eq_false hS];simp),decide_eq_false hS];rfl
def zjW (m:TMemory):Prop:=zhw m.Heap∧zbB m.Scope∧zfk m.Console∧∀ v ∈ zjV m.Scope,FitP m.Heap.Objects v
theorem zfv (m:TMemory) (h:TMemory.n m<=1048576):THeap.n m.Heap<=1048576∧m.Heap.Objects.length<=1048576∧TScope.n m.Scope<=1048576∧TConsole.n m.Console<=1048576∧m.Scope.Vars.length<=1048576:=by
 simp only [TMemory.n] at h
 refine ⟨by omega,?_,by omega,by omega,?_⟩
 ·have:m.Heap.Objects.length<=THeap.n m.Heap:=by simp only [THeap.n];omega
  omega
 ·have:m.Scope.Vars.length<=TScope.n m.Scope:=by simp only [TScope.n];omega
  omega
theorem zuL (m:TMemory) (h:TMemory.n m<=1048576):zeD m=some (decide (zjW m)):=by
 obtain ⟨h1,h2,h3,h4,h5⟩:=zfv m h
 unfold zeD zfb
 rw [zlU m.Heap h1,zgM m.Scope h3,zpr m.Console h4]
 simp only [Option.bind_eq_bind,Option.bind_some]
 by_cases g1:zhw m.Heap
 ·rw [decide_eq_true g1,if_pos rfl]
  by_cases g2:zbB m.Scope
  ·rw [decide_eq_true g2,if_pos rfl]
   by_cases g3:zfk m.Console
   ·rw [decide_eq_true g3,if_pos rfl,zzJ m.Scope h3 g2]
    simp only [Option.bind_some]
    rw [zuK m.Heap h1 h2 g1 _ (by unfold zjV;rw [List.length_map];exact h5)]
    exact congrArg some (decide_eq_decide.2 ⟨fun q=>⟨g1,g2,g3,q⟩,fun q=>q.2.2.2⟩)
   ·rw [decide_eq_false g3,decide_eq_false (fun q:zjW m=>g3 q.2.2.1)];rfl
  ·rw [decide_eq_false g2,decide_eq_false (fun q:zjW m=>g2 q.2.1)];rfl
 ·rw [decide_eq_false g1,decide_eq_false (fun q:zjW m=>g1 q.1)];rfl
theorem zuM (m:TMemory) (h:TMemory.n m<=1048576):zeH m=some (decide (zjW m)):=by
 obtain ⟨h1,h2,h3,h4,h5⟩:=zfv m h
 unfold zeH
 rw [zkq m.Heap h1,zjR m.Scope h3,zuJ m.Console h4]
 simp only [Option.bind_eq_bind,Option.bind_some]
 by_cases g1:zhw m.Heap
 ·rw [decide_eq_true g1,if_pos rfl]
  by_cases g2:zbB m.Scope
  ·rw [decide_eq_true g2,if_pos rfl]
   by_cases g3:zfk m.Console
   ·rw [decide_eq_true g3,if_pos rfl,zzI m.Scope h5]
    simp only [Option.bind_some]
    rw [zhv m.Heap _ h2 (by unfold zjV;rw [List.length_map];omega) g1.2.2.2.2.1]
    exact congrArg some (decide_eq_decide.2 ⟨fun q=>⟨g1,g2,g3,q⟩,fun q=>q.2.2.2⟩)
   ·rw [decide_eq_false g3,decide_eq_false (fun q:zjW m=>g3 q.2.2.1)];rfl
  ·rw [decide_eq_false g2,decide_eq_false (fun q:zjW m=>g2 q.2.1)];rfl
 ·rw [decide_eq_false g1,decide_eq_false (fun q:zjW m=>g1 q.1)];rfl
end Go.Vx.WvZ

