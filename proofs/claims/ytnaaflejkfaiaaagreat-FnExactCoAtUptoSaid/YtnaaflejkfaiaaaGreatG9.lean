/-
  CoAt: both sides answer the same.
-/
import Derived.Test.YtnaaflejkfaiaaaGreatG7
set_option linter.unusedVariables false
set_option linter.unusedSimpArgs false
namespace Go.Vx.CpZ
set_option linter.unusedVariables false
theorem ztA (x0:TGenScope) (x1:Int) (h0:TGenScope.n x0≤1048576) (h1:-9223372036854775808≤x1∧x1<9223372036854775808) (ht:TGenScope.n x0≤1048576):∃ r,zsg x0 x1=some r∧zsf x0 x1=some r∧TCoexpr.n r.1≤34359738368:=by
 obtain ⟨_,_,_,hc,hcs⟩:=zkt x0 h0
 obtain ⟨b,e1,e2⟩:=ztz x0 h0
 obtain ⟨r,f1,f2,f3⟩:=zxE (g0:=x0.Vars) (g4:=x0.Steps) x0 x1 hc
 unfold zsg zsf zjx
 rw [e1,e2,f1,f2]
 simp only [Option.bind_eq_bind,Option.bind_some]
 cases b with
 | false=>exact ⟨_,rfl,rfl,by decide⟩
 | true =>
  rw [if_pos rfl,if_pos rfl]
  rcases f3 with rfl|⟨i,hi,rfl⟩
  ·exact ⟨_,rfl,rfl,by decide⟩
  ·rw [if_neg (by omega),if_neg (by omega),zaq,List.getElem?_eq_getElem hi]
   have hs:=hcs _ (List.getElem_mem hi)
   simp only [Option.bind_some]
   rw [ztr _ hs,zxv _ hs]
   exact ⟨_,rfl,rfl,by simp only;omega⟩
end Go.Vx.CpZ
