/-
  Heaps that are valid: the program and the reference.
-/
import Derived.Test.YtnaaflejkfaiaaaGreatH3g
set_option linter.unusedVariables false
set_option linter.unusedSimpArgs false
namespace Go.Vx.RmZ
open Classical
theorem hlen {x:THeap} {m:Nat} (h:THeap.n x<=m) {o:TObject} (ho:o ∈ x.Objects):o.Keys.length<=m∧o.Vals.length<=m:=by
 simp only [THeap.n] at h
 have:TObject.n o<=lsum TObject.n x.Objects:=by
  clear h
  generalize x.Objects=l at *
  induction l with
  | nil=>cases ho
  | cons y r ih =>
   rw [zae]
   rcases List.mem_cons.1 ho with e|e
   ·subst e;omega
   ·have:=ih e;omega
 exact zuT o (by omega)
theorem zBP (x:THeap) (h:THeap.n x<=1048576):zfw x 0=if (∀ o ∈ x.Objects,ObjP o)∧(∀ o ∈ x.Objects,o.Id<=x.Next)∧SrtI TObject.Id x.Objects then some (.inl ()) else some (.inr false):=by
 have hl:x.Objects.length<=1048576:=by simp only [THeap.n] at h;omega
 have hh:=zdE x.Objects (zfw x) false (fun i a=>ObjP a∧a.Id<=x.Next∧(0<i->∀ c,x.Objects[i - 1]? = some c->c.Id<a.Id)) 0 (Nat.zero_le _) ?_ ?_ ?_
 ·rw [show ((0:Nat):Int)=0 from rfl] at hh
  rw [hh]
  have hiff:(∀ (i:Nat) a,0<=i->x.Objects[i]? = some a->ObjP a∧a.Id<=x.Next∧(0<i->∀ c,x.Objects[i - 1]? = some c->c.Id<a.Id)) ↔ ((∀ o ∈ x.Objects,ObjP o)∧(∀ o ∈ x.Objects,o.Id<=x.Next)∧SrtI TObject.Id x.Objects):=by
   rw [ziy]
   constructor
   ·intro q
    exact ⟨(zme _ _).1 fun i a hi hg=>(q i a hi hg).1,(zme _ _).1 fun i a hi hg=>(q i a hi hg).2.1,fun i a b h1 h2=>(q (i + 1) b (Nat.zero_le _) h2).2.2 (by omega) a h1⟩
   ·intro q i a _ hg
    refine ⟨q.1 a (zfg hg),q.2.1 a (zfg hg),fun hi c hc=>q.2.2 (i - 1) c a hc ?_⟩
    rw [show i - 1 + 1=i by omega];exact hg
  by_cases hS:(∀ o ∈ x.Objects,ObjP o)∧(∀ o ∈ x.Objects,o.Id<=x.Next)∧SrtI TObject.Id x.Objects
  ·rw [if_pos hS,if_pos (hiff.2 hS)]
  ·rw [if_neg hS,if_neg (fun e=>hS (hiff.1 e))]
 ·intro i a _ hi hg hp
  have hs:=hlen h (zfg hg)
  rw [zfw.eq_1,if_pos (by omega)]
  simp only [zat,hg,zpl a hs.1 hs.2,Option.bind_eq_bind,Option.bind_some]
  rw [if_pos (decide_eq_true hp.1),if_neg (show ¬ a.Id > x.Next by have:=hp.2.1;omega)]
  by_cases h0:0<i
  ·have hg1:=List.getElem?_eq_getElem (show i - 1<x.Objects.length by omega)
   have hlt:=hp.2.2 h0 _ hg1
   rw [if_pos (by omega),w64 (n:=(i:Int) - 1) (by omega) (by omega),show ((i:Int) - 1)=((i - 1:Nat):Int) by omega,zat,hg1]
   simp only [Option.bind_some]
   rw [if_neg (by omega),w64 (by omega) (by omega)]
  ·rw [if_neg (by omega),w64 (by omega) (by omega)]
 ·intro i a _ hi hg hp
  have hs:=hlen h (zfg hg)
  rw [zfw.eq_1,if_pos (by omega)]
  simp only [zat,hg,zpl a hs.1 hs.2,Option.bind_eq_bind,Option.bind_some]
  by_cases q1:ObjP a
  ·rw [if_pos (decide_eq_true q1)]
   by_cases q2:a.Id<=x.Next
   ·rw [if_neg (show ¬ a.Id > x.Next by omega)]
    by_cases h0:0<i
    ·have hg1:=List.getElem?_eq_getElem (show i - 1<x.Objects.length by omega)
     rw [if_pos (by omega),w64 (n:=(i:Int) - 1) (by omega) (by omega),show ((i:Int) - 1)=((i - 1:Nat):Int) by omega,zat,hg1]
     simp only [Option.bind_some]
     rw [if_pos]
     refine Int.not_lt.1 fun e=>hp ⟨q1,q2,fun _ c hc=>?_⟩
     rw [hg1] at hc;cases hc;exact e
    ·exact absurd ⟨q1,q2,fun e=>absurd e h0⟩ hp
   ·rw [if_pos (show a.Id > x.Next by omega)]
  ·rw [if_neg (by rw [decide_eq_false q1];simp)]
 ·rw [zfw.eq_1,if_neg (by omega)]
theorem zBQ (x:THeap) (h:THeap.n x<=1048576):zgk x 0=if (∀ o ∈ x.Objects,zix x.Objects o) then some (.inl ()) else some (.inr false):=by
 have hl:x.Objects.length<=1048576:=by simp only [THeap.n] at h;omega
 have hh:=zdE x.Objects (zgk x) false (fun i a=>zix x.Objects a) 0 (Nat.zero_le _) ?_ ?_ ?_
 ·rw [show ((0:Nat):Int)=0 from rfl] at hh
  rw [hh]
  have hiff:=zme x.Objects (zix x.Objects)
  by_cases hS:∀ o ∈ x.Objects,zix x.Objects o
  ·rw [if_pos hS,if_pos (hiff.2 hS)]
  ·rw [if_neg hS,if_neg (fun e=>hS (hiff.1 e))]
 ·intro i a _ hi hg hp
  have hs:=hlen h (zfg hg)
  rw [zgk.eq_1,if_pos (by omega)]
  simp only [zat,hg,znf x a hl hs.1 hs.2,Option.bind_eq_bind,Option.bind_some]
  rw [if_pos (decide_eq_true hp),w64 (by omega) (by omega)]
 ·intro i a _ hi hg hp
  have hs:=hlen h (zfg hg)
  rw [zgk.eq_1,if_pos (by omega)]
  simp only [zat,hg,znf x a hl hs.1 hs.2,Option.bind_eq_bind,Option.bind_some]
  rw [if_neg (by rw [decide_eq_false hp];simp)]
 ·rw [zgk.eq_1,if_neg (by omega)]
theorem zzh (x:THeap) (h:THeap.n x<=1048576):zlM x=some (decide (zjw x)):=by
 unfold zlM ziH
 rw [zcI,zBP x h,zBQ x h]
 simp only [Option.bind_eq_bind,Option.bind_some]
 by_cases h1:0<=x.Next∧x.Next<=1000000
 ·rw [if_pos (decide_eq_true h1)]
  by_cases h2:x.Objects.length<=40
  ·rw [if_neg (by omega)]
   by_cases h3:(∀ o ∈ x.Objects,ObjP o)∧(∀ o ∈ x.Objects,o.Id<=x.Next)∧SrtI TObject.Id x.Objects
   ·rw [if_pos h3]
    by_cases h4:∀ o ∈ x.Objects,zix x.Objects o
    ·rw [if_pos h4]
     exact congrArg some (decide_eq_true (show zjw x from ⟨h1,h2,h3.1,h3.2.1,h3.2.2,h4⟩)).symm
    ·rw [if_neg h4]
     exact congrArg some (decide_eq_false (fun q:zjw x=>h4 q.2.2.2.2.2)).symm
   ·rw [if_neg h3]
    exact congrArg some (decide_eq_false (fun q:zjw x=>h3 ⟨q.2.2.1,q.2.2.2.1,q.2.2.2.2.1⟩)).symm
  ·rw [if_pos (by omega)]
   exact congrArg some (decide_eq_false (fun q:zjw x=>h2 q.2.1)).symm
 ·rw [if_neg (by rw [decide_eq_false h1];simp)]
  exact congrArg some (decide_eq_false (fun q:zjw x=>h1 q.1)).symm
theorem zBR (x:THeap) (os:List TObject) (hl:os.length<=1048576):zdJ x os os.length 0 0=if (∀ o ∈ os,0<o.Id)∧(∀ o ∈ os,o.Id<=x.Next)∧SrtI TObject.Id os then some (.inl ()) else some (.inr false):=by
 have key:=zdP os (fun i rest=>∀ last:Int,zdJ x os os.length last (i:Int)=if (∀ o ∈ rest,last<o.Id)∧(∀ o ∈ rest,o.Id<=x.Next)∧SrtI TObject.Id rest then some (.inl ()) else some (.inr false)) ?_ ?_
 ·exact key 0
 ·intro last
  rw [zdJ.eq_1,if_neg (by omega),if_pos ⟨fun o ho=>(by cases ho),fun o ho=>(by cases ho),.nil⟩]
 ·intro i a rest hi hg hd ih last
  rw [zdJ.eq_1,if_pos (by omega)]
  simp only [zat,hg,Option.bind_eq_bind,Option.bind_some]
  rw [w64 (by omega) (by omega),show ((i:Int) + 1)=((i + 1:Nat):Int) by omega,ih a.Id]
  by_cases q1:a.Id<=last
  ·rw [if_pos q1,if_neg]
   intro e
   have:=e.1 a (List.mem_cons_self ..);omega
  ·rw [if_neg q1]
   by_cases q2:a.Id > x.Next
   ·rw [if_pos q2,if_neg]
    intro e
    have:=e.2.1 a (List.mem_cons_self ..);omega
   ·rw [if_neg q2]
    have hiff:((∀ o ∈ rest,a.Id<o.Id)∧(∀ o ∈ rest,o.Id<=x.Next)∧SrtI TObject.Id rest) ↔ ((∀ o ∈ a::rest,last<o.Id)∧(∀ o ∈ a::rest,o.Id<=x.Next)∧SrtI TObject.Id (a::rest)):=by
     constructor
     ·intro e
      refine ⟨fun o ho=>?_,fun o ho=>?_,.cons e.1 e.2.2⟩
      ·rcases List.mem_cons.1 ho with r|r
       ·subst r;omega
       ·have:=e.1 o r;omega
      ·rcases List.mem_cons.1 ho with r|r
       ·subst r;omega
       ·exact e.2.1 o r
     ·intro e
      cases e.2.2 with
      | cons g1 g2=>exact ⟨g1,fun o ho=>e.2.1 o (List.mem_cons_of_mem _ ho),g2⟩
    by_cases hS:(∀ o ∈ rest,a.Id<o.Id)∧(∀ o ∈ rest,o.Id<=x.Next)∧SrtI TObject.Id rest
    ·rw [if_pos hS,if_pos (hiff.1 hS)]
    ·rw [if_neg hS,if_neg (fun e=>hS (hiff.2 e))]
theorem zoo (x:THeap) (h:THeap.n x<=1048576):zev x.Objects=some (decide (∀ o ∈ x.Objects,ObjP o)):=by
 have hl:x.Objects.length<=1048576:=by simp only [THeap.n] at h;omega
 unfold zev
 rw [zdQ x.Objects x.Objects.length (zcW x.Objects x.Objects x.Objects.length) zeu (fun o=>decide (ObjP o)) (fun i=>zcW.eq_1 ..) rfl (by omega) (fun a ha=>zuS a (hlen h ha).1 (hlen h ha).2),zkg]
 by_cases hA:∀ o ∈ x.Objects,ObjP o
 ·rw [decide_eq_true hA];rfl
 ·rw [decide_eq_false hA];rfl
theorem ztO (x:THeap) (o:TObject) (h:x.Objects.length<=1048576) (hk:o.Keys.length<=1048576) (hv:o.Vals.length<=1048576) (hS:SrtI TObject.Id x.Objects):zey o x=some (decide (zix x.Objects o)):=by
 unfold zey zfF zbj
 rw [zdX (show o.Keys.length + o.Vals.length<=most by unfold most;omega)]
 simp only [Option.bind_eq_bind,Option.bind_some]
 by_cases h3:o.Kind=2
 ·rw [if_pos h3,zrf (by unfold most;simp only [List.length_append,List.length_cons,List.length_nil];omega)]
  simp only [Option.bind_some]
  rw [zgL x _ h (by simp only [List.length_append,List.length_cons,List.length_nil];omega) hS]
  refine congrArg some (decide_eq_decide.2 ?_)
  constructor
  ·intro q
   exact ⟨fun v hv=>q v (by simp [hv]),fun v hv=>q v (by simp [hv]),fun _=>q o.Default (by simp)⟩
  ·intro q v hv
   rcases List.mem_append.1 hv with hv|hv
   ·rcases List.mem_append.1 hv with hv|hv
    ·exact q.1 v hv
    ·exact q.2.1 v hv
   ·rw [List.mem_singleton.1 hv];exact q.2.2 h3
 ·rw [if_neg h3]
  simp only [Option.bind_some]
  rw [zgL x _ h (by simp only [List.length_append];omega) hS]
  refine congrArg some (decide_eq_decide.2 ?_)
  constructor
  ·intro q
   exact ⟨fun v hv=>q v (by simp [hv]),fun v hv=>q v (by simp [hv]),fun e=>absurd e h3⟩
  ·intro q v hv
   rcases List.mem_append.1 hv with hv|hv
   ·exact q.1 v hv
   ·exact q.2.1 v hv
theorem zng (x:THeap) (h:THeap.n x<=1048576) (hS:SrtI TObject.Id x.Objects):zdw x.Objects x=some (decide (∀ o ∈ x.Objects,zix x.Objects o)):=by
 have hl:x.Objects.length<=1048576:=by simp only [THeap.n] at h;omega
 unfold zdw
 rw [zdQ x.Objects x.Objects.length (zca x.Objects x.Objects x.Objects.length x) (fun o=>zey o x) (fun o=>decide (zix x.Objects o)) (fun i=>zca.eq_1 ..) rfl (by omega) (fun a ha=>ztO x a hl (hlen h ha).1 (hlen h ha).2 hS),zkg]
 by_cases hA:∀ o ∈ x.Objects,zix x.Objects o
 ·rw [decide_eq_true hA];rfl
 ·rw [decide_eq_false hA];rfl
theorem zkF (x:THeap) (h:THeap.n x<=1048576):zgF x=some (decide (zjw x)):=by
 have hl:x.Objects.length<=1048576:=by simp only [THeap.n] at h;omega
 unfold zgF zfW
 rw [zbd,zoo x h,zBR x x.Objects hl]
 simp only [Option.bind_eq_bind,Option.bind_some]
 by_cases h1:0<=x.Next∧x.Next<=1000000
 ·rw [if_pos (decide_eq_true h1)]
  by_cases h2:x.Objects.length<=40
  ·rw [if_neg (by omega)]
   by_cases h3:∀ o ∈ x.Objects,ObjP o
   ·rw [if_pos (decide_eq_true h3)]
    have hpos:∀ o ∈ x.Objects,0<o.Id:=fun o ho=>by have:=(h3 o ho).1.1;omega
    by_cases h4:(∀ o ∈ x.Objects,o.Id<=x.Next)∧SrtI TObject.Id x.Objects
    ·rw [if_pos ⟨hpos,h4.1,h4.2⟩,zng x h h4.2]
     exact congrArg some (decide_eq_decide.2 ⟨fun q=>⟨h1,h2,h3,h4.1,h4.2,q⟩,fun q=>q.2.2.2.2.2⟩)
    ·rw [if_neg (fun q=>h4 q.2)]
     exact congrArg some (decide_eq_false (fun q:zjw x=>h4 ⟨q.2.2.2.1,q.2.2.2.2.1⟩)).symm
   ·rw [if_neg (by rw [decide_eq_false h3];simp)]
    exact congrArg some (decide_eq_false (fun q:zjw x=>h3 q.2.2.1)).symm
  ·rw [if_pos (by omega)]
   exact congrArg some (decide_eq_false (fun q:zjw x=>h2 q.2.1)).symm
 ·rw [if_neg (by rw [decide_eq_false h1];simp)]
  exact congrArg some (decide_eq_false (fun q:zjw x=>h1 q.1)).symm
end Go.Vx.RmZ

