/-
  Suspended cursors: both sides answer the same.
-/
import Derived.Test.YtnaaflejkfaiaaaGreatG4
set_option linter.unusedVariables false
set_option linter.unusedSimpArgs false
namespace Go.Vx.RmZ
open Classical
theorem ztS:∀ {l:List TGen},gFL l=true->∀ y ∈ l,gF y=true
 | [],_,y,hy=>by cases hy
 | x::r,h,y,hy=>by
  simp only [gFL,Bool.and_eq_true] at h
  rcases List.mem_cons.1 hy with rfl|hy
  ·exact h.1
  ·exact ztS h.2 y hy
theorem zuW {x:TGen} (h:gF x=true):(1<=x.Kind∧x.Kind<=18)∧(∃ n,zgq x.Kind=some n∧zfE x.Kind=some n∧(x.Kids.length:Int)=n)∧∀ y ∈ x.Kids,gF y=true:=by
 rw [zzf,Bool.and_eq_true] at h
 obtain ⟨h1,h2⟩:=h
 unfold zmc at h1
 simp only [Bool.and_eq_true,decide_eq_true_eq] at h1
 obtain ⟨⟨⟨⟨hk,hl⟩,_⟩,_⟩,_⟩:=h1
 obtain ⟨n,hn⟩:=zkq _ hk
 rw [hn] at hl
 exact ⟨hk,⟨n,hn,by rw [ztE _ hk,hn],hl⟩,ztS h2⟩
theorem obs' (o:Option Bool):(o.bind fun t=>some t)=o:=by cases o <;> rfl
theorem zBS (h:THeap) (hl:h.Objects.length<=1048576) (hS:SrtI TObject.Id h.Objects) (x:TGen) (c:TCursor) (hv:c.Vals.length<=1048576) (hk:x.Kind=1 ∨ x.Kind=2 ∨ x.Kind=7) :
  ∃ b,zak h x c=some b∧zag h x c=some b:=by
 have hc:zbI x c=some (decide (c.Count=0)):=by
  unfold zbI;rw [if_neg (by omega),if_neg (by omega),if_neg (by omega)]
 have hn:zde x=some 0:=by
  unfold zde;rw [if_neg (by omega),if_neg (by omega)]
 have hj:zau h x c=some (decide (c.Phase=1) && decide ((c.Kids.length:Int)=0)):=by
  rcases hk with hk|hk|hk <;> simp only [zau.eq_1,zbD.eq_1,zbf.eq_1,hk,seval,if_true,if_false,decide_true,decide_false,Option.bind_eq_bind,Option.bind_some] <;> by_cases hp:c.Phase=1 <;> simp [hp]
 have hi:zci x c.Phase=some (.inr ([1],0,0)):=by
  rcases hk with hk|hk|hk <;> simp only [zci,zbX,zbW,hk,seval,if_true,if_false,decide_true,decide_false,Option.bind_eq_bind,Option.bind_some]
 have hh:zcS x.Kind=some false:=by
  unfold zcS;rw [if_neg (by omega),if_neg (by omega),decide_eq_false (by omega)]
 rw [zuV h hl x c hv hc hn,hj,zag.eq_1,hi]
 simp only [Option.bind_eq_bind,Option.bind_some,hh,Bool.false_eq_true,if_false]
 rw [ztR h hl hS c hv _ _ _ (by simp)]
 have:decide (c.Phase ∈ [(1:Int)])=decide (c.Phase=1):=by simp
 rw [this]
 cases decide (c.Count=0) <;> cases decide ((c.Vals.length:Int)=0) <;> cases decide (∀ v ∈ c.Vals,FitP h.Objects v) <;> cases decide (c.Phase=1) <;> cases decide ((c.Kids.length:Int)=0) <;> exact ⟨_,rfl,rfl⟩
theorem zBT (h:THeap) (hl:h.Objects.length<=1048576) (hS:SrtI TObject.Id h.Objects) (x:TGen) (c:TCursor) (hv:c.Vals.length<=1048576) (hk:x.Kind=3 ∨ x.Kind=9) :
  zak h x c=some false∧zag h x c=some false:=by
 have hc:zbI x c=some (decide (c.Count=0)):=by
  unfold zbI;rw [if_neg (by omega),if_neg (by omega),if_neg (by omega)]
 have hn:zde x=some 0:=by
  unfold zde;rw [if_neg (by omega),if_neg (by omega)]
 have hj:zau h x c=some false:=by
  rcases hk with hk|hk <;> simp only [zau.eq_1,zbD.eq_1,hk,seval,if_true,if_false,decide_true,decide_false,Option.bind_eq_bind,Option.bind_some]
 have hi:zci x c.Phase=some (.inr ([],0,0)):=by
  rcases hk with hk|hk <;> simp only [zci,zbX,hk,seval,if_true,if_false,decide_true,decide_false,Option.bind_eq_bind,Option.bind_some]
 have hh:zcS x.Kind=some false:=by
  unfold zcS;rw [if_neg (by omega),if_neg (by omega),decide_eq_false (by omega)]
 rw [zuV h hl x c hv hc hn,hj,zag.eq_1,hi]
 simp only [Option.bind_eq_bind,Option.bind_some,hh,Bool.false_eq_true,if_false]
 rw [ztR h hl hS c hv _ _ _ (by simp)]
 constructor
 ·split <;> rfl
 ·simp
theorem zBm (h:THeap) (hl:h.Objects.length<=1048576) (hS:SrtI TObject.Id h.Objects) (x:TGen) (c:TCursor) (hv:c.Vals.length<=1048576) (lo:Int) (hk:(x.Kind=4∧lo=1∧x.Kids.length=2) ∨ (x.Kind=8∧lo=2∧x.Kids.length=3))
  (hq:∀ y ∈ x.Kids,∀ d ∈ c.Kids,∃ b,zak h y d=some b∧zag h y d=some b) :
  ∃ b,zak h x c=some b∧zag h x c=some b:=by
 have hc:zbI x c=some (decide (c.Count=0)):=by
  unfold zbI;rw [if_neg (by omega),if_neg (by omega),if_neg (by omega)]
 have hn:zde x=some 0:=by
  unfold zde;rw [if_neg (by omega),if_neg (by omega)]
 have hh:zcS x.Kind=some false:=by
  unfold zcS;rw [if_neg (by omega),if_neg (by omega),decide_eq_false (by omega)]
 rw [zuV h hl x c hv hc hn,zag.eq_1]
 by_cases hp:lo<=c.Phase∧c.Phase<=lo + 1
 ·have hb:zdi x c.Phase=some (.inl [x.Kids[(c.Phase - 1).toNat]'(by omega)]):=by
   unfold zdi
   rw [zbd,decide_eq_true (by omega)]
   simp only [Option.bind_eq_bind,Option.bind_some,if_true]
   rw [w64 (by omega) (by omega)]
   unfold sub
   rw [if_pos (by omega),show c.Phase.toNat - (c.Phase - 1).toNat=1 by omega]
   simp only [Option.bind_some]
   rw [List.drop_eq_getElem_cons (by omega)];rfl
  have hi:zci x c.Phase=some (.inl (TcursorForm.mk [lo,lo + 1] 0 0 [x.Kids[(c.Phase - 1).toNat]'(by omega)])):=by
   rcases hk with ⟨hk,rfl,_⟩|⟨hk,rfl,_⟩ <;> simp only [zci,zbX,zbW,hk,hb,seval,if_true,if_false,decide_true,decide_false,Option.bind_eq_bind,Option.bind_some] <;> rfl
  rw [hi]
  simp only [Option.bind_eq_bind,Option.bind_some,hh,Bool.false_eq_true,if_false]
  rw [zzl h hl hS c hv _ (by simp)]
  simp only [show decide (c.Phase ∈ [lo,lo + 1])=true from decide_eq_true (by simp;omega),List.length_cons,List.length_nil]
  by_cases hlen:c.Kids.length=1
  ·have hg:=List.getElem?_eq_getElem (show 0<c.Kids.length by omega)
   obtain ⟨b,e1,e2⟩:=hq _ (List.getElem_mem (show (c.Phase - 1).toNat<x.Kids.length by omega)) _ (List.getElem_mem (show 0<c.Kids.length by omega))
   have hj:zau h x c=some b:=by
    have hx:idx x.Kids (c.Phase - 1)=some (x.Kids[(c.Phase - 1).toNat]'(by omega)):=by rw [zAc _ (by omega),List.getElem?_eq_getElem]
    have hx0:idxN c.Kids 0=some c.Kids[0]:=hg
    have hl1:((c.Kids.length:Int)=1):=by omega
    have hw:IntKind.wrap .i64 (c.Phase - 1)=c.Phase - 1:=w64 (by omega) (by omega)
    rcases hk with ⟨hk,rfl,_⟩|⟨hk,rfl,_⟩
    ·have hpd:decide (1<=c.Phase∧c.Phase<=2)=true:=decide_eq_true (by omega)
     simp only [zau.eq_1,zbD.eq_1,zbf.eq_1,hk,zcI,hpd,hl1,hw,hx,hx0,e1,seval,if_true,if_false,decide_true,decide_false,Option.bind_eq_bind,Option.bind_some]
    ·have hpd:decide (2<=c.Phase∧c.Phase<=3)=true:=decide_eq_true (by omega)
     simp only [zau.eq_1,zbD.eq_1,zbf.eq_1,hk,zcI,hpd,hl1,hw,hx,hx0,e1,seval,if_true,if_false,decide_true,decide_false,Option.bind_eq_bind,Option.bind_some]
   have hj1:zaM h c (TcursorForm.mk [lo,lo + 1] 0 0 [x.Kids[(c.Phase - 1).toNat]'(by omega)])=some b:=by
    rw [zaM.eq_1]
    simp only [List.length_cons,List.length_nil]
    rw [show (((0 + 1:Nat):Int))=1 from rfl,zzk h _ c _ _ hg e2]
    cases b <;> rfl
   rw [hj,hj1,show decide ((c.Kids.length:Int)=((0 + 1:Nat):Int))=true from decide_eq_true (by omega)]
   cases decide (c.Count=0) <;> cases decide ((c.Vals.length:Int)=0) <;> cases decide (∀ v ∈ c.Vals,FitP h.Objects v) <;> exact ⟨_,rfl,rfl⟩
  ·have hj:zau h x c=some false:=by
    have hl1:¬ ((c.Kids.length:Int)=1):=by omega
    rcases hk with ⟨hk,rfl,_⟩|⟨hk,rfl,_⟩
    ·have hpd:decide (1<=c.Phase∧c.Phase<=2)=true:=decide_eq_true (by omega)
     simp only [zau.eq_1,zbD.eq_1,zbf.eq_1,hk,zcI,hpd,hl1,seval,if_true,if_false,decide_true,decide_false,Option.bind_eq_bind,Option.bind_some]
    ·have hpd:decide (2<=c.Phase∧c.Phase<=3)=true:=decide_eq_true (by omega)
     simp only [zau.eq_1,zbD.eq_1,zbf.eq_1,hk,zcI,hpd,hl1,seval,if_true,if_false,decide_true,decide_false,Option.bind_eq_bind,Option.bind_some]
   rw [hj,show decide ((c.Kids.length:Int)=((0 + 1:Nat):Int))=false from decide_eq_false (by omega)]
   refine ⟨false,?_,?_⟩
   ·split <;> rfl
   ·simp
 ·have hj:zau h x c=some false:=by
   rcases hk with ⟨hk,rfl,_⟩|⟨hk,rfl,_⟩
   ·have hpd:decide (1<=c.Phase∧c.Phase<=2)=false:=decide_eq_false (by omega)
    simp only [zau.eq_1,zbD.eq_1,zbf.eq_1,hk,zcI,hpd,seval,if_true,if_false,decide_true,decide_false,Option.bind_eq_bind,Option.bind_some,Bool.false_eq_true]
   ·have hpd:decide (2<=c.Phase∧c.Phase<=3)=false:=decide_eq_false (by omega)
    simp only [zau.eq_1,zbD.eq_1,zbf.eq_1,hk,zcI,hpd,seval,if_true,if_false,decide_true,decide_false,Option.bind_eq_bind,Option.bind_some,Bool.false_eq_true]
  have hnm:decide (c.Phase ∈ [lo,lo + 1])=false:=decide_eq_false (by simp;omega)
  have hi:∃ f:TcursorForm ⊕ (List Int × Int × Int),zci x c.Phase=some f∧((∃ ks,f=.inl (TcursorForm.mk [lo,lo + 1] 0 0 ks)) ∨ f=.inr ([lo,lo + 1],0,0)):=by
   have hbr:∃ f:List TGen ⊕ Unit,zdi x c.Phase=some f:=by
    unfold zdi
    rw [zbd]
    simp only [Option.bind_eq_bind,Option.bind_some]
    by_cases q:1<=c.Phase∧c.Phase<=(x.Kids.length:Int)
    ·rw [if_pos (decide_eq_true q),w64 (by omega) (by omega)]
     unfold sub
     rw [if_pos (by omega)];exact ⟨_,rfl⟩
    ·rw [if_neg (by simp only [decide_eq_true_eq];exact q)];exact ⟨_,rfl⟩
   obtain ⟨f,hf⟩:=hbr
   rcases hk with ⟨hk,rfl,_⟩|⟨hk,rfl,_⟩ <;> simp only [zci,zbX,zbW,hk,hf,seval,if_true,if_false,decide_true,decide_false,Option.bind_eq_bind,Option.bind_some] <;> rcases f with f|f <;> first|exact ⟨_,rfl,.inl ⟨_,rfl⟩⟩|exact ⟨_,rfl,.inr rfl⟩
  obtain ⟨f,hf,hf2⟩:=hi
  rw [hj,hf]
  refine ⟨false,by split <;> rfl,?_⟩
  rcases hf2 with ⟨ks,rfl⟩|rfl
  ·simp only [Option.bind_eq_bind,Option.bind_some,hh,Bool.false_eq_true,if_false]
   rw [zzl h hl hS c hv _ (by simp)]
   simp only [hnm,Bool.false_and,Bool.false_eq_true,if_false]
  ·simp only [Option.bind_eq_bind,Option.bind_some,hh,Bool.false_eq_true,if_false]
   rw [ztR h hl hS c hv _ _ _ (by simp)]
   simp only [hnm,Bool.false_and]
end Go.Vx.RmZ

