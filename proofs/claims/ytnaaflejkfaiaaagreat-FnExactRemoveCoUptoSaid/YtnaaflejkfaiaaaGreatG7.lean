/-
  Scopes of generators: valid, found in, both sides alike.
-/
import Derived.Test.YtnaaflejkfaiaaaGreatG6
set_option linter.unusedVariables false
set_option linter.unusedSimpArgs false
namespace Go.Vx.RmZ
open Classical
theorem zBV (h:THeap) (hl:h.Objects.length<=1048576) (hS:SrtI TObject.Id h.Objects) (x:TCoexpr) (hx:TCoexpr.n x<=1048576):∃ b,ziK h x=some b∧zbJ h x=some b∧(b=true->1<=x.Id∧x.Id<=1000000):=by
 simp only [TCoexpr.n] at hx
 have hv1:=zku h hl x.Start (by omega)
 have hv2:=zku h hl x.Vars (by omega)
 have hw1:=zkv h hl hS x.Start (by omega)
 have hw2:=zkv h hl hS x.Vars (by omega)
 obtain ⟨rb,r1,r2⟩:=zzi h hl hS x.Body (by omega)
 obtain ⟨zb,z1,z2⟩:=zzj x.Cursor
 unfold ziK ziJ ziI zhx zbJ zcT zfY zfX
 by_cases hI:1<=x.Id∧x.Id<=1000000
 ·by_cases hG:GenP x.Body
  ·obtain ⟨sb,s1,s2⟩:=zBn h hl hS x.Body (by omega) hG.1 x.Cursor (by omega)
   simp only [zcI,zbd,decide_eq_true hI,zna x.Body (by omega),zpk x.Body (by omega),decide_eq_true hG,r1,r2,hv1,hv2,hw1,hw2,z1,z2,s1,s2,Option.bind_eq_bind,Option.bind_some,if_true]
   generalize decide (0<=x.Count∧x.Count<=1000000)=q2
   generalize decide (zjx h.Objects x.Start)=q3
   generalize decide (zjx h.Objects x.Vars)=q4
   by_cases c1:x.Done=true <;> by_cases c2:x.Count=0 <;> simp only [c1,c2,if_true,if_false,Bool.false_eq_true] <;> cases q2 <;> cases q3 <;> cases q4 <;> cases rb <;> exact ⟨_,rfl,rfl,fun _=>hI⟩
  ·simp only [zcI,zbd,decide_eq_true hI,zna x.Body (by omega),zpk x.Body (by omega),decide_eq_false hG,Option.bind_eq_bind,Option.bind_some,Bool.false_eq_true,if_false]
   exact ⟨_,rfl,rfl,fun _=>hI⟩
 ·simp only [zcI,zbd,decide_eq_false hI,Option.bind_eq_bind,Option.bind_some,Bool.false_eq_true,if_false]
  exact ⟨false,rfl,rfl,fun q=>by cases q⟩
theorem zqh {α:Type} (nm:α->Int) (xs:List α) (hs:xs.length<=1048576) (L:Int->Option (Unit ⊕ Bool))
  (hL:∀ i,L i=if i<(xs.length:Int) then (idx xs (IntKind.wrap .i64 (i - 1)) >>= fun a=>idx xs i >>= fun b=>if nm a ≥ nm b then some (.inr false) else L (IntKind.wrap .i64 (i + 1))) else some (.inl ())) :
  L 1=if SrtI nm xs then some (.inl ()) else some (.inr false):=by
 cases xs with
 | nil =>
  rw [hL,if_neg (by simp),if_pos]
  exact List.Pairwise.nil
 | cons x0 r =>
  have hh:=zdE (x0::r) L false (fun i b=>∀ a,(x0::r)[i - 1]? = some a->nm a<nm b) 1 (by simp) ?_ ?_ ?_
  ·rw [show ((1:Nat):Int)=1 from rfl] at hh
   rw [hh]
   have hiff:(∀ (i:Nat) b,1<=i->(x0::r)[i]? = some b->∀ a,(x0::r)[i - 1]? = some a->nm a<nm b) ↔ SrtI nm (x0::r):=by
    rw [ziy]
    constructor
    ·intro h i a b h1 h2;exact h (i + 1) b (by omega) h2 a h1
    ·intro h i b hi h1 a h2
     refine h (i - 1) a b h2 ?_
     rw [show i - 1 + 1=i by omega];exact h1
   by_cases hS:SrtI nm (x0::r)
   ·rw [if_pos hS,if_pos (hiff.2 hS)]
   ·rw [if_neg hS,if_neg (fun h=>hS (hiff.1 h))]
  ·intro i b h1 h2 hg hp
   have hg1:=List.getElem?_eq_getElem (show i - 1<(x0::r).length by omega)
   rw [hL,if_pos (by omega),w64 (by omega) (by omega),show ((i:Int) - 1)=((i - 1:Nat):Int) by omega,zat,zat,hg,hg1]
   have this:=hp _ hg1
   simp only [Option.bind_eq_bind,Option.bind_some]
   rw [if_neg (by omega),w64 (by omega) (by omega)]
  ·intro i b h1 h2 hg hp
   have hg1:=List.getElem?_eq_getElem (show i - 1<(x0::r).length by omega)
   rw [hL,if_pos (by omega),w64 (by omega) (by omega),show ((i:Int) - 1)=((i - 1:Nat):Int) by omega,zat,zat,hg,hg1]
   simp only [Option.bind_eq_bind,Option.bind_some]
   rw [if_pos]
   refine Int.not_lt.1 fun e=>hp fun a ha=>?_
   rw [hg1] at ha;cases ha;exact e
  ·rw [hL,if_neg (by omega)]
theorem zhC (x:TGenScope) (h:TGenScope.n x<=1048576):THeap.n x.Heap<=1048576∧x.Heap.Objects.length<=1048576∧x.Vars.length<=1048576∧x.Cos.length<=1048576∧∀ a ∈ x.Cos,TCoexpr.n a<=1048576:=by
 simp only [TGenScope.n] at h
 refine ⟨by omega,?_,by omega,by omega,fun a ha=>?_⟩
 ·have:x.Heap.Objects.length<=THeap.n x.Heap:=by simp only [THeap.n];omega
  omega
 ·have:=zeU TCoexpr.n x.Cos ha;omega
theorem zuX (x:TGenScope) (h:TGenScope.n x<=1048576):∃ b,zhy x=some b∧zeC x=some b∧(b=true->x.Cos.length<=8∧∀ a ∈ x.Cos,1<=a.Id∧a.Id<=1000000):=by
 obtain ⟨hh,hl,hv,hc,hcs⟩:=zhC x h
 unfold zhy zeC
 rw [zzh x.Heap hh,zkF x.Heap hh]
 simp only [Option.bind_eq_bind,Option.bind_some]
 by_cases hH:zjw x.Heap
 ·have hS:=hH.2.2.2.2.1
  simp only [decide_eq_true hH,if_true,zku x.Heap hl x.Vars hv,zkv x.Heap hl hS x.Vars hv,Option.bind_some]
  by_cases hV:zjx x.Heap.Objects x.Vars
  ·simp only [decide_eq_true hV,if_true]
   by_cases h8:(x.Cos.length:Int) > 8
   ·rw [if_pos h8,if_pos h8];exact ⟨false,rfl,rfl,fun q=>by cases q⟩
   ·rw [if_neg h8,if_neg h8]
    have hco:∀ a ∈ x.Cos,ziK x.Heap a=some ((zbJ x.Heap a).getD false)∧zbJ x.Heap a=some ((zbJ x.Heap a).getD false)∧((zbJ x.Heap a).getD false=true->1<=a.Id∧a.Id<=1000000):=by
     intro a ha
     obtain ⟨b,e1,e2,e3⟩:=zBV x.Heap hl hS a (hcs a ha)
     rw [e1,e2];exact ⟨rfl,rfl,e3⟩
    generalize hp:(fun a=>(zbJ x.Heap a).getD false)=p at *
    have hco':∀ a ∈ x.Cos,ziK x.Heap a=some (p a)∧zbJ x.Heap a=some (p a)∧(p a=true->1<=a.Id∧a.Id<=1000000):=by
     intro a ha;rw [<- hp];exact hco a ha
    have s1:zds x 0=if (∀ a ∈ x.Cos,p a=true)∧SrtI TCoexpr.Id x.Cos then some (.inl ()) else some (.inr false):=by
     have hh:=zdE x.Cos (zds x) false (fun i a=>p a=true∧(0<i->∀ c,x.Cos[i - 1]? = some c->c.Id<a.Id)) 0 (Nat.zero_le _) ?_ ?_ ?_
     ·rw [show ((0:Nat):Int)=0 from rfl] at hh
      rw [hh]
      have hiff:(∀ (i:Nat) a,0<=i->x.Cos[i]? = some a->p a=true∧(0<i->∀ c,x.Cos[i - 1]? = some c->c.Id<a.Id)) ↔ ((∀ o ∈ x.Cos,p o=true)∧SrtI TCoexpr.Id x.Cos):=by
       rw [ziy]
       constructor
       ·intro q
        exact ⟨(zme _ _).1 fun i a hi hg=>(q i a hi hg).1,fun i a b h1 h2=>(q (i + 1) b (Nat.zero_le _) h2).2 (by omega) a h1⟩
       ·intro q i a _ hg
        refine ⟨q.1 a (zfg hg),fun hi c hc=>q.2 (i - 1) c a hc ?_⟩
        rw [show i - 1 + 1=i by omega];exact hg
      by_cases hS:(∀ o ∈ x.Cos,p o=true)∧SrtI TCoexpr.Id x.Cos
      ·rw [if_pos hS,if_pos (hiff.2 hS)]
      ·rw [if_neg hS,if_neg (fun e=>hS (hiff.1 e))]
     ·intro i a _ hi hg hp
      rw [zds.eq_1,if_pos (by omega)]
      simp only [zat,hg,(hco' a (zfg hg)).1,hp.1,Option.bind_eq_bind,Option.bind_some,if_true]
      by_cases h0:0<i
      ·have hg1:=List.getElem?_eq_getElem (show i - 1<x.Cos.length by omega)
       have hlt:=hp.2 h0 _ hg1
       rw [if_pos (by omega),w64 (n:=(i:Int) - 1) (by omega) (by omega),show ((i:Int) - 1)=((i - 1:Nat):Int) by omega,zat,hg1]
       simp only [Option.bind_some]
       rw [if_neg (by omega),w64 (by omega) (by omega)]
      ·rw [if_neg (by omega),w64 (by omega) (by omega)]
     ·intro i a _ hi hg hq
      rw [zds.eq_1,if_pos (by omega)]
      simp only [zat,hg,(hco' a (zfg hg)).1,Option.bind_eq_bind,Option.bind_some]
      cases hpa:p a with
      | false=>rfl
      | true =>
       rw [if_pos rfl]
       by_cases h0:0<i
       ·have hg1:=List.getElem?_eq_getElem (show i - 1<x.Cos.length by omega)
        rw [if_pos (by omega),w64 (n:=(i:Int) - 1) (by omega) (by omega),show ((i:Int) - 1)=((i - 1:Nat):Int) by omega,zat,hg1]
        simp only [Option.bind_some]
        rw [if_pos]
        refine Int.not_lt.1 fun e=>hq ⟨hpa,fun _ c hc=>?_⟩
        rw [hg1] at hc;cases hc;exact e
       ·exact absurd ⟨hpa,fun e=>absurd e h0⟩ hq
     ·rw [zds.eq_1,if_neg (by omega)]
    have i1:zeA x.Cos x.Heap=some (decide (∀ a ∈ x.Cos,p a=true)):=by
     unfold zeA
     rw [zdQ x.Cos x.Cos.length (zcY x.Cos x.Heap x.Cos x.Cos.length) (fun a=>zbJ x.Heap a) p (fun i=>zcY.eq_1 ..) rfl (by omega) (fun a ha=>(hco' a ha).2.1)]
     by_cases hA:∀ a ∈ x.Cos,p a=true
     ·rw [if_pos (List.all_eq_true.2 hA),decide_eq_true hA];rfl
     ·rw [if_neg (fun q=>hA (List.all_eq_true.1 q)),decide_eq_false hA];rfl
    have i2:=zqh TCoexpr.Id x.Cos hc (zcZ x) (fun i=>zcZ.eq_1 ..)
    unfold zgB zeB
    rw [s1,i1,i2,zcI,zbd]
    simp only [Option.bind_eq_bind,Option.bind_some]
    generalize decide (0<=x.Steps∧x.Steps<=20000)=q3
    by_cases q1:∀ a ∈ x.Cos,p a=true
    ·by_cases q2:SrtI TCoexpr.Id x.Cos
     ·rw [if_pos (show (∀ a ∈ x.Cos,p a=true)∧SrtI TCoexpr.Id x.Cos from ⟨q1,q2⟩),if_pos q2,decide_eq_true q1]
      exact ⟨q3,by cases q3 <;> rfl,by cases q3 <;> rfl,fun _=>⟨by omega,fun a ha=>(hco' a ha).2.2 (q1 a ha)⟩⟩
     ·rw [if_neg (fun q:(∀ a ∈ x.Cos,p a=true)∧SrtI TCoexpr.Id x.Cos=>q2 q.2),if_neg q2,decide_eq_true q1]
      exact ⟨false,by cases q3 <;> rfl,by cases q3 <;> rfl,fun q=>by cases q⟩
    ·rw [if_neg (fun q:(∀ a ∈ x.Cos,p a=true)∧SrtI TCoexpr.Id x.Cos=>q1 q.1),decide_eq_false q1]
     exact ⟨false,by cases q3 <;> rfl,by cases q3 <;> rfl,fun q=>by cases q⟩
  ·simp only [decide_eq_false hV,Bool.false_eq_true,if_false];exact ⟨false,rfl,rfl,fun q=>by cases q⟩
 ·simp only [decide_eq_false hH,Bool.false_eq_true,if_false];exact ⟨false,rfl,rfl,fun q=>by cases q⟩
end Go.Vx.RmZ

