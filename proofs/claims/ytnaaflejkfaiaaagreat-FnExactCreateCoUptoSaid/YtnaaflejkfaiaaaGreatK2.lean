/-
  A co-expression added to a scope: both sides alike.
-/
import Derived.Test.YtnaaflejkfaiaaaGreatK1
set_option linter.unusedVariables false
set_option linter.unusedSimpArgs false
namespace Go.Vx.CrZ
set_option linter.unusedVariables false
set_option linter.unusedSimpArgs false
def zSc:TGenScope:=TGenScope.mk [] (THeap.mk 0 []) [] 0
theorem zAl (x:TGenScope) (h:TGenScope.n x≤1048576) (h8:x.Cos.length≤8) (hid:∀ a ∈ x.Cos,1≤a.Id∧a.Id≤1000000) (e:TGen) (he:TGen.n e≤1048576) (st:List TBinding) (hs:st.length + lsum TBinding.n st≤1048576) :
  ∃ r,zdQ x (TCoexpr.mk 0 e st st zc 0 false)=some r∧zjr x e st=some r∧TGenScope.n r.1≤34359738368:=by
 obtain ⟨hh,hl,hv,hc,hcs⟩:=zft x h
 have hz:TGenScope.n (TGenScope.mk [] (THeap.mk 0 []) [] 0)≤34359738368:=by decide
 have hzc:TCursor.n zc=0:=by rw [TCursor.n_eq];rfl
 have main:∀ last:Int,0≤last→last≤1000000→∃ r,zbJ x (TCoexpr.mk 0 e st st zc 0 false) zSc last=some r∧zfA x e st zSc (last + 1)=some r∧TGenScope.n r.1≤34359738368:=by
  intro last h1 h2
  unfold zbJ zfA
  by_cases hn:(x.Cos.length:Int)=8
  ·rw [if_pos hn,if_pos (show (x.Cos.length:Int) ≥ 8 by omega)];exact ⟨_,rfl,rfl,hz⟩
  ·rw [if_neg hn,if_neg (show ¬ (x.Cos.length:Int) ≥ 8 by omega)]
   by_cases hm:last=1000000
   ·rw [if_pos hm,if_pos (show last + 1 > 1000000 by omega)];exact ⟨_,rfl,rfl,hz⟩
   ·rw [if_neg hm,if_neg (show ¬ last + 1 > 1000000 by omega)]
    unfold zdU zhP zbV
    rw [znO x h,zpz x h,w64 (by omega) (by omega),zoG e he,zdS (show st.length≤most by unfold most;omega)]
    have hco:=zoH (TCoexpr.mk (last + 1) e st st zc 0 false)
    have hcn:TCoexpr.n (TCoexpr.mk (last + 1) e st st zc 0 false)=TGen.n e + (st.length + lsum TBinding.n st) + (st.length + lsum TBinding.n st) + 0:=by simp only [TCoexpr.n,hzc]
    have hcc:zbp (TCoexpr.mk (last + 1) e st st zc 0 false)=some (TCoexpr.mk (last + 1) e st st zc 0 false):=by
     unfold zbp zak
     simp only []
     rw [zmD e he,zmE zc (by omega),zdS (show st.length≤most by unfold most;omega)]
     rfl
    simp only [Option.bind_eq_bind,Option.bind_some]
    rw [hcc]
    simp only [Option.bind_some]
    rw [zne (by unfold most;simp only [List.length_cons,List.length_nil];omega)]
    refine ⟨_,rfl,rfl,?_⟩
    simp only [TGenScope.n] at h ⊢
    rw [ztf,List.length_append,hcn]
    simp only [List.length_cons,List.length_nil]
    omega
 unfold zdQ zjr
 by_cases hp:(x.Cos.length:Int) > 0
 ·rw [if_pos hp,if_pos hp,w64 (by omega) (by omega),show ((x.Cos.length:Int) - 1)=((x.Cos.length - 1:Nat):Int) by omega,zar,List.getElem?_eq_getElem (show x.Cos.length - 1<x.Cos.length by omega)]
  have hi:=hid _ (List.getElem_mem (show x.Cos.length - 1<x.Cos.length by omega))
  simp only [Option.bind_eq_bind,Option.bind_some]
  rw [w64 (by omega) (by omega)]
  exact main _ (by omega) hi.2
 ·rw [if_neg hp,if_neg hp]
  exact main 0 (by omega) (by omega)
end Go.Vx.CrZ
