/-
  RefreshCo: both sides answer the same.
-/
import Derived.Test.YtnaaflejkfaiaaaGreatK2
import Derived.Test.YtnaaflejkfaiaaaGreatK8
set_option linter.unusedVariables false
set_option linter.unusedSimpArgs false
namespace Go.Vx.RfZ
set_option linter.unusedVariables false
theorem zuh (x0:TGenScope) (x1:Int) (h0:TGenScope.n x0≤1048576) (h1:-9223372036854775808≤x1∧x1<9223372036854775808) (ht:TGenScope.n x0≤1048576):∃ r,zhT x0 x1=some r∧zhS x0 x1=some r∧TGenScope.n r.1≤34359738368:=by
 obtain ⟨_,_,_,hc,hcs⟩:=zgn x0 h0
 obtain ⟨b,e1,e2,e3⟩:=zuf x0 h0
 obtain ⟨r,f1,f2,f3⟩:=zyB x0 x1 hc
 have hz:TGenScope.n (TGenScope.mk [] (THeap.mk 0 []) [] 0)≤34359738368:=by decide
 unfold zhT zhS
 rw [e1,e2,f1,f2]
 simp only [Option.bind_eq_bind,Option.bind_some,ztm,zAD]
 cases b with
 | false=>exact ⟨_,rfl,rfl,hz⟩
 | true =>
  rw [if_pos rfl,if_pos rfl,if_pos rfl]
  rcases f3 with rfl|⟨i,hi,rfl⟩
  ·exact ⟨_,rfl,rfl,hz⟩
  ·have hs:=hcs _ (List.getElem_mem hi)
   obtain ⟨q1,q2⟩:=e3 rfl
   simp only [TCoexpr.n] at hs
   obtain ⟨r,a1,a2,a3⟩:=zAC x0 h0 q1 q2 x0.Cos[i].Body (by omega) x0.Cos[i].Start (by omega)
   simp only [show decide ((i:Int) ≥ 0)=true from decide_eq_true (by omega),if_true]
   rw [if_neg (by omega),zap,List.getElem?_eq_getElem hi]
   simp only [Option.bind_some]
   rw [a1,a2]
   exact ⟨r,rfl,rfl,a3⟩
end Go.Vx.RfZ
