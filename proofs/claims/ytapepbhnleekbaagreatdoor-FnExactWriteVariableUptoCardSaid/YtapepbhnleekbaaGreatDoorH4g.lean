/-
  Heaps that are valid: the program and the reference.
-/
import Derived.Test.YtapepbhnleekbaaGreatDoorH3g
set_option linter.unusedVariables false
set_option linter.unusedSimpArgs false
namespace Go.Vx.WvZ
open Classical
theorem hlen {x:THeap} {m:Nat} (h:THeap.n x<=m) {o:TObject} (ho:o ∈ x.Objects):o.Keys.length<=m∧o.Vals.length<=m:=by
 simp only [THeap.n] at h
 have:TObject.n o<=lsum TObject.n x.Objects:=by
  clear h
  generalize x.Objects=l at *
  induction l with
  | nil=>cases ho
  | cons y r ih =>
   rw [zag]
   rcases List.mem_cons.1 ho with e|e
   ·subst e;omega
   ·have:=ih e;omega
 exact zuH o (by omega)
theorem zCS (x:THeap) (h:THeap.n x<=1048576):zeR x 0=if (∀ o ∈ x.Objects,ObjP o)∧(∀ o ∈ x.Objects,o.Id<=x.Next)∧SrtI TObject.Id x.Objects then some (.inl ()) else some (.inr false):=by
 have hl:x.Objects.length<=1048576:=by simp only [THeap.n] at h;omega
 have hh:=zdB x.Objects (zeR x) false (fun i a=>ObjP a∧a.Id<=x.Next∧(0<i->∀ c,x.Objects[i - 1]? = some c->c.Id<a.Id)) 0 (Nat.zero_le _) ?_ ?_ ?_
 ·rw [show ((0:Nat):Int)=0 from rfl] at hh
  rw [hh]
  have hiff:(∀ (i:Nat) a,0<=i->x.Objects[i]? = some a->ObjP a∧a.Id<=x.Next∧(0<i->∀ c,x.Objects[i - 1]? = some c->c.Id<a.Id)) ↔ ((∀ o ∈ x.Objects,ObjP o)∧(∀ o ∈ x.Objects,o.Id<=x.Next)∧SrtI TObject.Id x.Objects):=by
   rw [zlT]
   constructor
   ·intro q
    exact ⟨(zog _ _).1 fun i a hi hg=>(q i a hi hg).1,(zog _ _).1 fun i a hi hg=>(q i a hi hg).2.1,fun i a b h1 h2=>(q (i + 1) b (Nat.zero_le _) h2).2.2 (by omega) a h1⟩
   ·intro q i a _ hg
    refine ⟨q.1 a (zga hg),q.2.1 a (zga hg),fun hi c hc=>q.2.2 (i - 1) c a hc ?_⟩
    rw [show i - 1 + 1=i by omega];exact hg
  by_cases hS:(∀ o ∈ x.Objects,ObjP o)∧(∀ o ∈ x.Objects,o.Id<=x.Next)∧SrtI TObject.Id x.Objects
  ·rw [if_pos hS,if_pos (hiff.2 hS)]
  ·rw [if_neg hS,if_neg (fun e=>hS (hiff.1 e))]
 ·intro i a _ hi hg hp
  have hs:=hlen h (zga hg)
  rw [zeR.eq_1,if_pos (by omega)]
  simp only [zao,hg,zpq a hs.1 hs.2,Option.bind_eq_bind,Option.bind_some]
  rw [if_pos (decide_eq_true hp.1),if_neg (show ¬ a.Id > x.Next by have:=hp.2.1;omega)]
  by_cases h0:0<i
  ·have hg1:=List.getElem?_eq_getElem (show i - 1<x.Objects.length by omega)
   have hlt:=hp.2.2 h0 _ hg1
   rw [if_pos (by omega),w64 (n:=(i:Int) - 1) (by omega) (by omega),show ((i:Int) - 1)=((i - 1:Nat):Int) by omega,zao,hg1]
   simp only [Option.bind_some]
   rw [if_neg (by omega),w64 (by omega) (by omega)]
  ·rw [if_neg (by omega),w64 (by omega) (by omega)]
 ·intro i a _ hi hg hp
  have hs:=hlen h (zga hg)
  rw [zeR.eq_1,if_pos (by omega)]
  simp only [zao,hg,zpq a hs.1 hs.2,Option.bind_eq_bind,Option.bind_some]
  by_cases q1:ObjP a
  ·rw [if_pos (decide_eq_true q1)]
   by_cases q2:a.Id<=x.Next
   ·rw [if_neg (show ¬ a.Id > x.Next by omega)]
    by_cases h0:0<i
    ·have hg1:=List.getElem?_eq_getElem (show i - 1<x.Objects.length by omega)
     rw [if_pos (by omega),w64 (n:=(i:Int) - 1) (by omega) (by omega),show ((i:Int) - 1)=((i - 1:Nat):Int) by omega,zao,hg1]
     simp only [Option.bind_some]
     rw [if_pos]
     refine Int.not_lt.1 fun e=>hp ⟨q1,q2,fun _ c hc=>?_⟩
     rw [hg1] at hc;cases hc;exact e
    ·exact absurd ⟨q1,q2,fun e=>absurd e h0⟩ hp
   ·rw [if_pos (show a.Id > x.Next by omega)]
  ·rw [if_neg (by rw [decide_eq_false q1];simp)]
 ·rw [zeR.eq_1,if_neg (by omega)]
theorem zCT (x:THeap) (h:THeap.n x<=1048576):zfP x 0=if (∀ o ∈ x.Objects,zib x.Objects o) then some (.inl ()) else some (.inr false):=by
 have hl:x.Objects.length<=1048576:=by simp only [THeap.n] at h;omega
 have hh:=zdB x.Objects (zfP x) false (fun i a=>zib x.Objects a) 0 (Nat.zero_le _) ?_ ?_ ?_
 ·rw [show ((0:Nat):Int)=0 from rfl] at hh
  rw [hh]
  have hiff:=zog x.Objects (zib x.Objects)
  by_cases hS:∀ o ∈ x.Objects,zib x.Objects o
  ·rw [if_pos hS,if_pos (hiff.2 hS)]
  ·rw [if_neg hS,if_neg (fun e=>hS (hiff.1 e))]
 ·intro i a _ hi hg hp
  have hs:=hlen h (zga hg)
  rw [zfP.eq_1,if_pos (by omega)]
  simp only [zao,hg,znc x a hl hs.1 hs.2,Option.bind_eq_bind,Option.bind_some]
  rw [if_pos (decide_eq_true hp),w64 (by omega) (by omega)]
 ·intro i a _ hi hg hp
  have hs:=hlen h (zga hg)
  rw [zfP.eq_1,if_pos (by omega)]
  simp only [zao,hg,znc x a hl hs.1 hs.2,Option.bind_eq_bind,Option.bind_some]
  rw [if_neg (by rw [decide_eq_false hp];simp)]
 ·rw [zfP.eq_1,if_neg (by omega)]
theorem zlU (x:THeap) (h:THeap.n x<=1048576):zjA x=some (decide (zhw x)):=by
 unfold zjA zio
 rw [zgK,zCS x h,zCT x h]
 simp only [Option.bind_eq_bind,Option.bind_some]
 by_cases h1:0<=x.Next∧x.Next<=1000000
 ·rw [if_pos (decide_eq_true h1)]
  by_cases h2:x.Objects.length<=40
  ·rw [if_neg (by omega)]
   by_cases h3:(∀ o ∈ x.Objects,ObjP o)∧(∀ o ∈ x.Objects,o.Id<=x.Next)∧SrtI TObject.Id x.Objects
   ·rw [if_pos h3]
    by_cases h4:∀ o ∈ x.Objects,zib x.Objects o
    ·rw [if_pos h4]
     exact congrArg some (decide_eq_true (show zhw x from ⟨h1,h2,h3.1,h3.2.1,h3.2.2,h4⟩)).symm
    ·rw [if_neg h4]
     exact congrArg some (decide_eq_false (fun q:zhw x=>h4 q.2.2.2.2.2)).symm
   ·rw [if_neg h3]
    exact congrArg some (decide_eq_false (fun q:zhw x=>h3 ⟨q.2.2.1,q.2.2.2.1,q.2.2.2.2.1⟩)).symm
  ·rw [if_pos (by omega)]
   exact congrArg some (decide_eq_false (fun q:zhw x=>h2 q.2.1)).symm
 ·rw [if_neg (by rw [decide_eq_false h1];simp)]
  exact congrArg some (decide_eq_false (fun q:zhw x=>h1 q.1)).symm
theorem zCU (x:THeap) (os:List TObject) (hl:os.length<=1048576):zdc x os os.length 0 0=if (∀ o ∈ os,0<o.Id)∧(∀ o ∈ os,o.Id<=x.Next)∧SrtI TObject.Id os then some (.inl ()) else some (.inr false):=by
 have key:=zbD os (fun i rest=>∀ last:Int,zdc x os os.length last (i:Int)=if (∀ o ∈ rest,last<o.Id)∧(∀ o ∈ rest,o.Id<=x.Next)∧SrtI TObject.Id rest then some (.inl ()) else some (.inr false)) ?_ ?_
 ·exact key 0
 ·intro last
  rw [zdc.eq_1,if_neg (by omega),if_pos ⟨fun o ho=>(by cases ho),fun o ho=>(by cases ho),.nil⟩]
 ·intro i a rest hi hg hd ih last
  rw [zdc.eq_1,if_pos (by omega)]
  simp only [zao,hg,Option.bind_eq_bind,Option.bind_some]
  rw [w64 (by omega) (by omega),show ((i:Int) + 1)=((i + 1:Nat):Int) by omega,ih a.Id]
  by_cases q1:a.Id<=last
  ·rw [if_pos q1,if_neg]
   intro e
   have:=e.1 a (List.mem_cons_self ..);omega
  ·rw [if_neg q1]
   by_cases q2:a.Id > x.Next
   ·rw [if_pos q2,if_neg]
    intro e
    have:=e.2.1 a (List.mem_cons_self ..);omega
   ·rw [if_neg q2]
    have hiff:((∀ o ∈ rest,a.Id<o.Id)∧(∀ o ∈ rest,o.Id<=x.Next)∧SrtI TObject.Id rest) ↔ ((∀ o ∈ a::rest,last<o.Id)∧(∀ o ∈ a::rest,o.Id<=x.Next)∧SrtI TObject.Id (a::rest)):=by
     constructor
     ·intro e
      refine ⟨fun o ho=>?_,fun o ho=>?_,.cons e.1 e.2.2⟩
      ·rcases List.mem_cons.1 ho with r|r
       ·subst r;omega
       ·have:=e.1 o r;omega
      ·rcases List.mem_cons.1 ho with r|r
       ·subst r;omega
       ·exact e.2.1 o r
     ·intro e
      cases e.2.2 with
      | cons g1 g2=>exact ⟨g1,fun o ho=>e.2.1 o (List.mem_cons_of_mem _ ho),g2⟩
    by_cases hS:(∀ o ∈ rest,a.Id<o.Id)∧(∀ o ∈ rest,o.Id<=x.Next)∧SrtI TObject.Id rest
    ·rw [if_pos hS,if_pos (hiff.1 hS)]
    ·rw [if_neg hS,if_neg (fun e=>hS (hiff.2 e))]
theorem zoh (x:THeap) (h:THeap.n x<=1048576):zdM x.Objects=some (decide (∀ o ∈ x.Objects,ObjP o)):=by
 have hl:x.Objects.length<=1048576:=by simp only [THeap.n] at h;omega
 unfold zdM
 rw [zbu x.Objects x.Objects.length (zcp x.Objects x.Objects x.Objects.length) zdL (fun o=>decide (ObjP o)) (fun i=>zcp.eq_1 ..) rfl (by omega) (fun a ha=>zuG a (hlen h ha).1 (hlen h ha).2),zlf]
 by_cases hA:∀ o ∈ x.Objects,ObjP o
 ·rw [decide_eq_true hA];rfl
 ·rw [decide_eq_false hA];rfl
theorem ztH (x:THeap) (o:TObject) (h:x.Objects.length<=1048576) (hk:o.Keys.length<=1048576) (hv:o.Vals.length<=1048576) (hS:SrtI TObject.Id x.Objects):zdP o x=some (decide (zib x.Objects o)):=by
 unfold zdP zfg zba
 rw [zaJ (show o.Keys.length + o.Vals.length<=most by unfold most;omega)]
 simp only [Option.bind_eq_bind,Option.bind_some]
 by_cases h3:o.Kind=2
 ·rw [if_pos h3,zcx (by unfold most;simp only [List.length_append,List.length_cons,List.length_nil];omega)]
  simp only [Option.bind_some]
  rw [zhv x _ h (by simp only [List.length_append,List.length_cons,List.length_nil];omega) hS]
  refine congrArg some (decide_eq_decide.2 ?_)
  constructor
  ·intro q
   exact ⟨fun v hv=>q v (by simp [hv]),fun v hv=>q v (by simp [hv]),fun _=>q o.Default (by simp)⟩
  ·intro q v hv
   rcases List.mem_append.1 hv with hv|hv
   ·rcases List.mem_append.1 hv with hv|hv
    ·exact q.1 v hv
    ·exact q.2.1 v hv
   ·rw [List.mem_singleton.1 hv];exact q.2.2 h3
 ·rw [if_neg h3]
  simp only [Option.bind_some]
  rw [zhv x _ h (by simp only [List.length_append];omega) hS]
  refine congrArg some (decide_eq_decide.2 ?_)
  constructor
  ·intro q
   exact ⟨fun v hv=>q v (by simp [hv]),fun v hv=>q v (by simp [hv]),fun e=>absurd e h3⟩
  ·intro q v hv
   rcases List.mem_append.1 hv with hv|hv
   ·exact q.1 v hv
   ·exact q.2.1 v hv
theorem znd (x:THeap) (h:THeap.n x<=1048576) (hS:SrtI TObject.Id x.Objects):zcK x.Objects x=some (decide (∀ o ∈ x.Objects,zib x.Objects o)):=by
 have hl:x.Objects.length<=1048576:=by simp only [THeap.n] at h;omega
 unfold zcK
 rw [zbu x.Objects x.Objects.length (zbE x.Objects x.Objects x.Objects.length x) (fun o=>zdP o x) (fun o=>decide (zib x.Objects o)) (fun i=>zbE.eq_1 ..) rfl (by omega) (fun a ha=>ztH x a hl (hlen h ha).1 (hlen h ha).2 hS),zlf]
 by_cases hA:∀ o ∈ x.Objects,zib x.Objects o
 ·rw [decide_eq_true hA];rfl
 ·rw [decide_eq_false hA];rfl
theorem zkq (x:THeap) (h:THeap.n x<=1048576):zgh x=some (decide (zhw x)):=by
 have hl:x.Objects.length<=1048576:=by simp only [THeap.n] at h;omega
 unfold zgh zfD
 rw [zdv,zoh x h,zCU x x.Objects hl]
 simp only [Option.bind_eq_bind,Option.bind_some]
 by_cases h1:0<=x.Next∧x.Next<=1000000
 ·rw [if_pos (decide_eq_true h1)]
  by_cases h2:x.Objects.length<=40
  ·rw [if_neg (by omega)]
   by_cases h3:∀ o ∈ x.Objects,ObjP o
   ·rw [if_pos (decide_eq_true h3)]
    have hpos:∀ o ∈ x.Objects,0<o.Id:=fun o ho=>by have:=(h3 o ho).1.1;omega
    by_cases h4:(∀ o ∈ x.Objects,o.Id<=x.Next)∧SrtI TObject.Id x.Objects
    ·rw [if_pos ⟨hpos,h4.1,h4.2⟩,znd x h h4.2]
     exact congrArg some (decide_eq_decide.2 ⟨fun q=>⟨h1,h2,h3,h4.1,h4.2,q⟩,fun q=>q.2.2.2.2.2⟩)
    ·rw [if_neg (fun q=>h4 q.2)]
     exact congrArg some (decide_eq_false (fun q:zhw x=>h4 ⟨q.2.2.2.1,q.2.2.2.2.1⟩)).symm
   ·rw [if_neg (by rw [decide_eq_false h3];simp)]
    exact congrArg some (decide_eq_false (fun q:zhw x=>h3 q.2.2.1)).symm
  ·rw [if_pos (by omega)]
   exact congrArg some (decide_eq_false (fun q:zhw x=>h2 q.2.1)).symm
 ·rw [if_neg (by rw [decide_eq_false h1];simp)]
  exact congrArg some (decide_eq_false (fun q:zhw x=>h1 q.1)).symm
end Go.Vx.WvZ

