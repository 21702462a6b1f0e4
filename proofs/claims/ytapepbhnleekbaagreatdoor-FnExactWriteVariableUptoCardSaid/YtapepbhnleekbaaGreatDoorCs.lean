/-
  A scope's copy is the scope (the reference).
-/
import Derived.Test.YtapepbhnleekbaaGreatDoorP5
set_option linter.unusedVariables false
set_option linter.unusedSimpArgs false
namespace Go.Vx.WvZ
theorem zqp (a:TFunction) (h:a.Params.length + a.Locals.length<=1048576):zdh a=some a:=by
 unfold zdh
 rw [zaJ (show a.Params.length<=most by unfold most;omega),zaJ (show a.Locals.length<=most by unfold most;omega)]
 rfl
theorem zmX (a:TRecordType) (h:a.Fields.length<=1048576):zfr a=some a:=by
 unfold zfr
 rw [zaJ (show a.Fields.length<=most by unfold most;omega)]
 rfl
theorem zCj (x z:TScope) (h:TScope.n x<=1048576) (v:List TBinding) (t:List TRecordType):zfd x z (TScope.mk v [] t) 0=some (TScope.mk v x.Functions t):=by
 simp only [TScope.n] at h
 have key:=zbD x.Functions (fun i rest=>∀ acc:List TFunction,acc.length=i->zfd x z (TScope.mk v acc t) (i:Int)=some (TScope.mk v (acc++rest) t)) ?_ ?_
 ·have:=key [] rfl
  rw [show ((0:Nat):Int)=0 from rfl] at this
  rw [this];rfl
 ·intro acc ha
  rw [zfd.eq_1,if_neg (by omega),List.append_nil]
 ·intro i a rest hi hg hd ih acc ha
  have hm:a ∈ x.Functions:=(List.getElem?_eq_some_iff.1 hg).2 ▸ List.getElem_mem hi
  have hs:=zlR a (m:=1048576) (by have:=zeM TFunction.n x.Functions hm;omega)
  rw [zfd.eq_1,if_pos (by omega),zao,hg]
  simp only [zqp a hs,Option.bind_eq_bind,Option.bind_some]
  rw [zcx (by unfold most;simp only [List.length_cons,List.length_nil];omega),w64 (by omega) (by omega)]
  simp only [Option.bind_some]
  have:=ih (acc++[a]) (by simp;omega)
  rw [show ((i:Int) + 1)=((i + 1:Nat):Int) by omega]
  rw [List.append_assoc] at this
  exact this
theorem zCk (x z:TScope) (h:TScope.n x<=1048576) (v:List TBinding) (f:List TFunction):zfe x z (TScope.mk v f []) 0=some (TScope.mk v f x.Types):=by
 simp only [TScope.n] at h
 have key:=zbD x.Types (fun i rest=>∀ acc:List TRecordType,acc.length=i->zfe x z (TScope.mk v f acc) (i:Int)=some (TScope.mk v f (acc++rest))) ?_ ?_
 ·have:=key [] rfl
  rw [show ((0:Nat):Int)=0 from rfl] at this
  rw [this];rfl
 ·intro acc ha
  rw [zfe.eq_1,if_neg (by omega),List.append_nil]
 ·intro i a rest hi hg hd ih acc ha
  have hm:a ∈ x.Types:=(List.getElem?_eq_some_iff.1 hg).2 ▸ List.getElem_mem hi
  have hs:=zhX a (m:=1048576) (by have:=zeM TRecordType.n x.Types hm;omega)
  rw [zfe.eq_1,if_pos (by omega),zao,hg]
  simp only [zmX a hs,Option.bind_eq_bind,Option.bind_some]
  rw [zcx (by unfold most;simp only [List.length_cons,List.length_nil];omega),w64 (by omega) (by omega)]
  simp only [Option.bind_some]
  have:=ih (acc++[a]) (by simp;omega)
  rw [show ((i:Int) + 1)=((i + 1:Nat):Int) by omega]
  rw [List.append_assoc] at this
  exact this
theorem zpp (x:TScope) (h:TScope.n x<=1048576):zhQ x=some x:=by
 have h':=h
 simp only [TScope.n] at h'
 unfold zhQ
 rw [zaJ (show x.Vars.length<=most by unfold most;omega)]
 simp only [Option.bind_eq_bind,Option.bind_some,zCj x _ h,zCk x _ h]
end Go.Vx.WvZ

