/-
  A scope's copy is the scope (the reference).
-/
import Derived.Test.YtdhpbbopmlppfaaGreatP5
set_option linter.unusedVariables false
set_option linter.unusedSimpArgs false
namespace Go.Vx.CmZ
set_option linter.unusedVariables false
theorem zpI (a:TFunction) (h:a.Params.length + a.Locals.length≤1048576):zdh a=some a:=by
 unfold zdh
 rw [zbb (show a.Params.length≤most by unfold most;omega),zbb (show a.Locals.length≤most by unfold most;omega)]
 rfl
theorem zmw (a:TRecordType) (h:a.Fields.length≤1048576):zfq a=some a:=by
 unfold zfq
 rw [zbb (show a.Fields.length≤most by unfold most;omega)]
 rfl
theorem zBG (x z:TScope) (h:TScope.n x≤1048576) (v:List TBinding) (t:List TRecordType):zfb x z (TScope.mk v [] t) 0=some (TScope.mk v x.Functions t):=by
 simp only [TScope.n] at h
 have key:=zaI x.Functions (fun i rest=>∀ acc:List TFunction,acc.length=i→zfb x z (TScope.mk v acc t) (i:Int)=some (TScope.mk v (acc++rest) t)) ?_ ?_
 ·have:=key [] rfl
  rw [show ((0:Nat):Int)=0 from rfl] at this
  rw [this];rfl
 ·intro acc ha
  rw [zfb.eq_1,if_neg (by omega),List.append_nil]
 ·intro i a rest hi hg hd ih acc ha
  have hm:a ∈ x.Functions:=(List.getElem?_eq_some_iff.1 hg).2 ▸ List.getElem_mem hi
  have hs:=zlr a (m:=1048576) (by have:=zeK TFunction.n x.Functions hm;omega)
  rw [zfb.eq_1,if_pos (by omega),zai,hg]
  simp only [zpI a hs,Option.bind_eq_bind,Option.bind_some]
  rw [zck (by unfold most;simp only [List.length_cons,List.length_nil];omega),w64 (by omega) (by omega)]
  simp only [Option.bind_some]
  have:=ih (acc++[a]) (by simp;omega)
  rw [show ((i:Int) + 1)=((i + 1:Nat):Int) by omega]
  rw [List.append_assoc] at this
  exact this
theorem zBH (x z:TScope) (h:TScope.n x≤1048576) (v:List TBinding) (f:List TFunction):zfc x z (TScope.mk v f []) 0=some (TScope.mk v f x.Types):=by
 simp only [TScope.n] at h
 have key:=zaI x.Types (fun i rest=>∀ acc:List TRecordType,acc.length=i→zfc x z (TScope.mk v f acc) (i:Int)=some (TScope.mk v f (acc++rest))) ?_ ?_
 ·have:=key [] rfl
  rw [show ((0:Nat):Int)=0 from rfl] at this
  rw [this];rfl
 ·intro acc ha
  rw [zfc.eq_1,if_neg (by omega),List.append_nil]
 ·intro i a rest hi hg hd ih acc ha
  have hm:a ∈ x.Types:=(List.getElem?_eq_some_iff.1 hg).2 ▸ List.getElem_mem hi
  have hs:=zhV a (m:=1048576) (by have:=zeK TRecordType.n x.Types hm;omega)
  rw [zfc.eq_1,if_pos (by omega),zai,hg]
  simp only [zmw a hs,Option.bind_eq_bind,Option.bind_some]
  rw [zck (by unfold most;simp only [List.length_cons,List.length_nil];omega),w64 (by omega) (by omega)]
  simp only [Option.bind_some]
  have:=ih (acc++[a]) (by simp;omega)
  rw [show ((i:Int) + 1)=((i + 1:Nat):Int) by omega]
  rw [List.append_assoc] at this
  exact this
theorem ztY (x:TScope) (h:TScope.n x≤1048576):zhR x=some x:=by
 have h':=h
 simp only [TScope.n] at h'
 unfold zhR
 rw [zbb (show x.Vars.length≤most by unfold most;omega)]
 simp only [Option.bind_eq_bind,Option.bind_some,zBG x _ h,zBH x _ h]
end Go.Vx.CmZ
