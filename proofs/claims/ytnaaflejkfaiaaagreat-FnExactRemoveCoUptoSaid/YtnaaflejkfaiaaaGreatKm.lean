/-
  RemoveCo: both sides answer the same.
-/
import Derived.Test.YtnaaflejkfaiaaaGreatK8
set_option linter.unusedVariables false
set_option linter.unusedSimpArgs false
namespace Go.Vx.RmZ
theorem zpm {α:Type} (f:α->Nat) (a b:List α):lsum f (a++b)=lsum f a + lsum f b:=by
 induction a with
 | nil=>simp [zcq]
 | cons x r ih=>rw [List.cons_append,zae,zae,ih];omega
theorem zuZ (x0:TGenScope) (x1:Int) (h0:TGenScope.n x0<=1048576) (h1:-9223372036854775808<=x1∧x1<9223372036854775808) (ht:TGenScope.n x0<=1048576):∃ r s,ziN x0 x1=some r∧ziL x0 x1=some s∧r=(Sum.elim id id) s∧TGenScope.n r.1<=34359738368:=by
 obtain ⟨_,_,_,hc,hcs⟩:=zhC x0 h0
 obtain ⟨b,e1,e2,e3⟩:=zuX x0 h0
 obtain ⟨r,f1,f2,f3⟩:=zzm x0 x1 hc
 have hz:TGenScope.n (TGenScope.mk [] (THeap.mk 0 []) [] 0)<=34359738368:=by decide
 unfold ziN ziL
 rw [e1,e2,f1,f2]
 simp only [Option.bind_eq_bind,Option.bind_some,ztW,zBp]
 cases b with
 | false=>exact ⟨_,_,rfl,rfl,rfl,hz⟩
 | true =>
  rw [if_pos rfl,if_pos rfl,if_pos rfl]
  rcases f3 with rfl|⟨i,hi,rfl⟩
  ·exact ⟨_,_,rfl,rfl,rfl,hz⟩
  ·simp only [show decide ((i:Int) ≥ 0)=true from decide_eq_true (by omega),if_true]
   rw [if_neg (by omega),zop x0 h0,zqj x0 h0]
   simp only [Option.bind_some]
   unfold zba subH subL app
   rw [w64 (by omega) (by omega),zdX (show 0<=(i:Int)∧(i:Int) + 1=(i:Int) + 1∧(i:Int)<(x0.Cos.length:Int)∧x0.Cos.length<=most from ⟨by omega,rfl,by omega,by unfold most;omega⟩)]
   rw [if_pos (by omega)]
   simp only [Option.bind_eq_bind,Option.bind_some]
   rw [zdX (show (x0.Cos.take (i:Int).toNat).length<=most by rw [List.length_take];unfold most;omega),if_pos (by omega)]
   simp only [Option.bind_some]
   have ht1:((i:Int) + 1).toNat=(i:Int).toNat + 1:=by omega
   rw [ht1,if_pos (by rw [List.length_take,List.length_drop];unfold most;omega)]
   refine ⟨_,_,rfl,rfl,rfl,?_⟩
   have hsp:=zpm TCoexpr.n (x0.Cos.take (i:Int).toNat) (x0.Cos.drop (i:Int).toNat)
   rw [List.take_append_drop] at hsp
   have hd:x0.Cos.drop (i:Int).toNat=x0.Cos[i]::x0.Cos.drop ((i:Int).toNat + 1):=by
    rw [show (i:Int).toNat=i by omega,List.drop_eq_getElem_cons hi]
   rw [hd,zae] at hsp
   simp only [TGenScope.n] at h0 ⊢
   rw [zpm,List.length_append,List.length_take,List.length_drop]
   omega
end Go.Vx.RmZ

