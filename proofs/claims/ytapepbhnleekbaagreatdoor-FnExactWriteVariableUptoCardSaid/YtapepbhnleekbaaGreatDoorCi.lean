/-
  A scope's copy is the scope (the program).
-/
import Derived.Test.YtapepbhnleekbaaGreatDoorP5
set_option linter.unusedVariables false
set_option linter.unusedSimpArgs false
namespace Go.Vx.WvZ
theorem zzE (x z:TScope) (h:TScope.n x<=1048576) (v:List TBinding) (t:List TRecordType):zbS x z x.Functions x.Functions.length (TScope.mk v [] t) 0=some (TScope.mk v x.Functions t):=by
 simp only [TScope.n] at h
 have key:=zbD x.Functions (fun i rest=>∀ acc:List TFunction,acc.length=i->zbS x z x.Functions x.Functions.length (TScope.mk v acc t) (i:Int)=some (TScope.mk v (acc++rest) t)) ?_ ?_
 ·have:=key [] rfl
  rw [show ((0:Nat):Int)=0 from rfl] at this
  rw [this];rfl
 ·intro acc ha
  rw [zbS.eq_1,if_neg (by omega),List.append_nil]
 ·intro i a rest hi hg hd ih acc ha
  have hm:a ∈ x.Functions:=(List.getElem?_eq_some_iff.1 hg).2 ▸ List.getElem_mem hi
  have hs:=zlR a (m:=1048576) (by have:=zeM TFunction.n x.Functions hm;omega)
  rw [zbS.eq_1,if_pos (by omega),zao,hg]
  simp only [zad,Option.bind_eq_bind,Option.bind_some]
  rw [zaJ (show a.Params.length<=most by unfold most;omega),zaJ (show a.Locals.length<=most by unfold most;omega)]
  simp only [Option.bind_some]
  rw [zcx (by unfold most;simp only [List.length_cons,List.length_nil];omega),w64 (by omega) (by omega)]
  simp only [Option.bind_some]
  have:=ih (acc++[a]) (by simp;omega)
  rw [show ((i:Int) + 1)=((i + 1:Nat):Int) by omega]
  rw [List.append_assoc] at this
  exact this
theorem zzF (x z:TScope) (h:TScope.n x<=1048576) (v:List TBinding) (f:List TFunction):zbT x z x.Types x.Types.length (TScope.mk v f []) 0=some (TScope.mk v f x.Types):=by
 simp only [TScope.n] at h
 have key:=zbD x.Types (fun i rest=>∀ acc:List TRecordType,acc.length=i->zbT x z x.Types x.Types.length (TScope.mk v f acc) (i:Int)=some (TScope.mk v f (acc++rest))) ?_ ?_
 ·have:=key [] rfl
  rw [show ((0:Nat):Int)=0 from rfl] at this
  rw [this];rfl
 ·intro acc ha
  rw [zbT.eq_1,if_neg (by omega),List.append_nil]
 ·intro i a rest hi hg hd ih acc ha
  have hm:a ∈ x.Types:=(List.getElem?_eq_some_iff.1 hg).2 ▸ List.getElem_mem hi
  have hs:=zhX a (m:=1048576) (by have:=zeM TRecordType.n x.Types hm;omega)
  rw [zbT.eq_1,if_pos (by omega),zao,hg]
  simp only [zad,Option.bind_eq_bind,Option.bind_some]
  rw [zaJ (show a.Fields.length<=most by unfold most;omega)]
  simp only [Option.bind_some]
  rw [zcx (by unfold most;simp only [List.length_cons,List.length_nil];omega),w64 (by omega) (by omega)]
  simp only [Option.bind_some]
  have:=ih (acc++[a]) (by simp;omega)
  rw [show ((i:Int) + 1)=((i + 1:Nat):Int) by omega]
  rw [List.append_assoc] at this
  exact this
theorem zoe (x:TScope) (h:TScope.n x<=1048576):zeg x=some x:=by
 have h':=h
 simp only [TScope.n] at h'
 unfold zeg zal
 rw [zaJ (show x.Vars.length<=most by unfold most;omega)]
 simp only [Option.bind_eq_bind,Option.bind_some,zzE x _ h,zzF x _ h]
end Go.Vx.WvZ

