/-
  CreateCo: both sides answer the same.
-/
import Derived.Test.YtnaaflejkfaiaaaGreatK2
set_option linter.unusedVariables false
set_option linter.unusedSimpArgs false
namespace Go.Vx.CrZ
set_option linter.unusedVariables false
open Classical
theorem zyl {x:TGenScope} (h:TGenScope.n x≤1048576) (e:zfs x=some true):zim x.Heap:=by
 unfold zfs at e
 rw [zsV x.Heap (zft x h).1] at e
 simp only [Option.bind_eq_bind,Option.bind_some] at e
 by_cases hH:zim x.Heap
 ·exact hH
 ·rw [if_neg (by simpa using hH)] at e;simp at e
theorem zua (x0:TGenScope) (x1:TGen) (h0:TGenScope.n x0≤1048576) (h1:TGen.n x1≤1048576) (ht:TGenScope.n x0 + TGen.n x1≤1048576):∃ r,ziB x0 x1=some r∧ziA x0 x1=some r∧TGenScope.n r.1≤34359738368:=by
 obtain ⟨hh,hl,hv,hc,hcs⟩:=zft x0 h0
 obtain ⟨b,e1,e2,e3⟩:=ztY x0 h0
 have hz:TGenScope.n (TGenScope.mk [] (THeap.mk 0 []) [] 0)≤34359738368:=by decide
 unfold ziB ziA zhd ziz
 rw [e1,e2]
 simp only [Option.bind_eq_bind,Option.bind_some]
 cases b with
 | false=>exact ⟨_,rfl,rfl,hz⟩
 | true =>
  have hS:=(zyl h0 e1).2.2.2.2.1
  obtain ⟨rb,r1,r2⟩:=zsY x0.Heap hl hS x1 h1
  obtain ⟨q1,q2⟩:=e3 rfl
  rw [zkc x1 h1,zlF x1 h1,r1,r2]
  simp only [Option.bind_some,if_true]
  generalize decide (GenP x1)=g
  cases g with
  | false=>exact ⟨_,rfl,rfl,hz⟩
  | true =>
   cases rb with
   | false=>exact ⟨_,rfl,rfl,hz⟩
   | true =>
    obtain ⟨r,a1,a2,a3⟩:=zAl x0 h0 q1 q2 x1 h1 x0.Vars (by simp only [TGenScope.n] at h0;omega)
    have z1:zgg (TCursor.mk 0 0 [] [])=some true:=rfl
    have z2:zbH (TCursor.mk 0 0 [] [])=some true:=rfl
    simp only [z1,z2,Option.bind_some,if_true]
    rw [show TCursor.mk 0 0 [] []=zc from rfl,a1,a2]
    exact ⟨r,rfl,rfl,a3⟩
end Go.Vx.CrZ
