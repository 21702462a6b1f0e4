/-
  Heaps that are valid.
-/
import Derived.Test.YtnaaflejkfaiaaaGreatH2
set_option linter.unusedVariables false
set_option linter.unusedSimpArgs false
namespace Go.Vx.RmZ
open Classical
def FitP (os:List TObject) (v:TValue):Prop:=vOK v=true∧(4<=v.Kind∧v.Kind<=6->∃ o,os.find? (fun o=>decide (o.Id=v.Ref))=some o∧o.Kind=v.Kind - 3)
theorem zBl (k:Int) (h:4<=k∧k<=6):IntKind.wrap .i64 (IntKind.wrap .i64 (k - 4) + 1)=k - 3:=by
 rw [w64 (n:=k - 4) (by omega) (by omega),w64 (by omega) (by omega)];omega
theorem zqg (H:THeap) (r:Int) (h:H.Objects.length<=1048576):zim H r=some (match H.Objects.findIdx? fun o=>decide (o.Id=r) with
  | some i=>(i:Int)
  | none=>-1):=by
 unfold zim
 have key:=zdP H.Objects (fun i rest=>zeV H r (i:Int)=match rest.findIdx? fun o=>decide (o.Id=r) with
  | some j=>some (.inr ((i + j:Nat):Int))
  | none=>some (.inl ())) ?_ ?_
 ·rw [show ((0:Nat):Int)=0 from rfl] at key
  rw [key]
  cases H.Objects.findIdx? fun o=>decide (o.Id=r) with
  | none=>rfl
  | some j=>simp
 ·rw [zeV.eq_1,if_neg (by omega)];rfl
 ·intro i a rest hi hg hd ih
  have ih':zeV H r ((i:Int) + 1)=_:=ih
  rw [zeV.eq_1,if_pos (by omega)]
  simp only [zat,hg,Option.bind_eq_bind,Option.bind_some]
  rw [List.findIdx?_cons,w64 (by omega) (by omega),ih']
  by_cases he:a.Id=r
  ·simp [he]
  ·rw [if_neg he,decide_eq_false he]
   cases rest.findIdx? fun o=>decide (o.Id=r) with
   | none=>rfl
   | some j=>simp;omega
theorem fidx {α:Type} (p:α->Bool) (l:List α):(∃ i,∃ h:i<l.length,l.findIdx? p=some i∧l.find? p=some l[i]) ∨ (l.findIdx? p=none∧l.find? p=none):=by
 cases hi:l.findIdx? p with
 | none =>
  right
  refine ⟨rfl,?_⟩
  rw [List.find?_eq_none]
  intro a ha
  have:=List.findIdx?_eq_none_iff.1 hi a ha
  simp [this]
 | some i =>
  left
  obtain ⟨hlt,hp,hn⟩:=List.findIdx?_eq_some_iff_getElem.1 hi
  refine ⟨i,hlt,rfl,?_⟩
  rw [List.find?_eq_some_iff_getElem]
  exact ⟨hp,i,hlt,rfl,fun j hj=>by simpa using hn j hj⟩
theorem zhl (H:THeap) (v:TValue) (h:H.Objects.length<=1048576):zep H v=some (decide (FitP H.Objects v)):=by
 unfold zep zeI zfD
 simp only [zeF,zcI,zqg H v.Ref h,Option.bind_eq_bind,Option.bind_some]
 by_cases h1:vOK v=true
 ·rw [if_pos h1]
  by_cases h2:4<=v.Kind∧v.Kind<=6
  ·rw [if_pos (decide_eq_true h2),zBl _ h2]
   rcases fidx (fun o:TObject=>decide (o.Id=v.Ref)) H.Objects with ⟨i,hi,e1,e2⟩|⟨e1,e2⟩
   ·rw [e1]
    simp only []
    rw [if_pos (by omega),zat,List.getElem?_eq_getElem hi]
    simp only [Option.bind_some]
    refine congrArg some (decide_eq_decide.2 ⟨fun q=>⟨h1,fun _=>⟨_,e2,q⟩⟩,fun q=>?_⟩)
    obtain ⟨o,q1,q2⟩:=q.2 h2
    rw [e2] at q1;cases q1;exact q2
   ·rw [e1]
    simp only []
    rw [if_neg (by omega)]
    refine congrArg some (decide_eq_false (fun q:FitP H.Objects v=>?_)).symm
    obtain ⟨o,q1,q2⟩:=q.2 h2
    rw [e2] at q1;cases q1
  ·rw [if_neg (by rw [decide_eq_false h2];simp)]
   exact congrArg some (decide_eq_true (show FitP H.Objects v from ⟨h1,fun q=>absurd q h2⟩)).symm
 ·rw [if_neg h1]
  exact congrArg some (decide_eq_false (fun q:FitP H.Objects v=>h1 q.1)).symm
theorem zkt (x:THeap) (v:TValue) (h:x.Objects.length<=1048576) (hS:SrtI TObject.Id x.Objects):zdZ x v=some (decide (FitP x.Objects v)):=by
 have hfind:zgE x v.Ref=some (match x.Objects.find? fun o=>decide (o.Id=v.Ref) with
   | some o=>((posQ (fun o:TObject=>decide (o.Id<v.Ref)) x.Objects:Nat):Int)
   | none=>-1):=by
  unfold zgE zaF
  have hc:∀ a:TObject,zex a v.Ref=some (if a.Id<v.Ref then -1 else if a.Id > v.Ref then 1 else 0):=fun a=>by
   simp only [zex,zeL,zew,Option.bind_eq_bind,Option.bind_some,Bool.false_eq_true,if_false]
   by_cases q1:a.Id<v.Ref
   ·rw [if_pos q1,if_pos q1];rfl
   ·rw [if_neg q1,if_neg q1]
    by_cases q2:a.Id > v.Ref
    ·rw [if_pos q2,if_pos q2];rfl
    ·rw [if_neg q2,if_neg q2];rfl
  rw [zpJ (fun o:TObject=>decide (o.Id<v.Ref)) x.Objects (by omega) (fun i a hg=>znC hS i a hg) (zai x.Objects v.Ref x.Objects.length) ?_]
  ·simp only [Option.bind_eq_bind,Option.bind_some]
   rw [zkf hS v.Ref]
   by_cases hlt:posQ (fun o:TObject=>decide (o.Id<v.Ref)) x.Objects<x.Objects.length
   ·have hg:=List.getElem?_eq_getElem hlt
    have hp:=znC hS (x:=v.Ref) _ _ hg
    have hnl:¬ x.Objects[posQ (fun o:TObject=>decide (o.Id<v.Ref)) x.Objects].Id<v.Ref:=fun e=>absurd (hp.1 (decide_eq_true e)) (Nat.lt_irrefl _)
    rw [if_pos (by omega),zat,hg]
    simp only [Option.bind_some,hc]
    rw [if_neg hnl]
    by_cases he:x.Objects[posQ (fun o:TObject=>decide (o.Id<v.Ref)) x.Objects].Id=v.Ref
    ·have hg':¬ x.Objects[posQ (fun o:TObject=>decide (o.Id<v.Ref)) x.Objects].Id > v.Ref:=by omega
     simp [hg',he]
    ·have hg':x.Objects[posQ (fun o:TObject=>decide (o.Id<v.Ref)) x.Objects].Id > v.Ref:=by omega
     simp [hg',he]
   ·rw [if_neg (by omega),List.getElem?_eq_none (by omega)];rfl
  ·intro lo hi
   rw [zai.eq_1]
   by_cases hlt:(lo:Int)<hi
   ·rw [if_pos hlt,if_pos hlt]
    simp only [hc,Option.bind_eq_bind,Option.bind_some]
    congr 1
    funext a
    by_cases q1:a.Id<v.Ref
    ·rw [if_pos q1,if_pos (by omega),if_pos (decide_eq_true q1)]
    ·rw [if_neg q1,if_neg (show ¬ decide (a.Id<v.Ref)=true by simpa using q1)]
     by_cases q2:a.Id > v.Ref
     ·rw [if_pos q2,if_neg (by omega)]
     ·rw [if_neg q2,if_neg (by omega)]
   ·rw [if_neg hlt,if_neg hlt]
 unfold zdZ zfV zhA zhh
 simp only [zdo,zbd,hfind,Option.bind_eq_bind,Option.bind_some]
 by_cases h1:vOK v=true
 ·rw [if_pos h1]
  by_cases h2:4<=v.Kind∧v.Kind<=6
  ·rw [if_pos (decide_eq_true h2),zBl _ h2]
   cases hf:x.Objects.find? fun o=>decide (o.Id=v.Ref) with
   | none =>
    simp only []
    rw [if_neg (by omega)]
    refine congrArg some (decide_eq_false (fun q:FitP x.Objects v=>?_)).symm
    obtain ⟨o,q1,q2⟩:=q.2 h2
    rw [hf] at q1;cases q1
   | some o =>
    have hfo:=hf
    rw [zkf hS v.Ref] at hf
    obtain ⟨o',g1,g2⟩:=Option.bind_eq_some_iff.1 hf
    split at g2
    ·cases g2
     simp only []
     rw [if_pos (by omega),zat,g1]
     simp only [Option.bind_some]
     refine congrArg some (decide_eq_decide.2 ⟨fun q=>⟨h1,fun _=>⟨_,hfo,q⟩⟩,fun q=>?_⟩)
     obtain ⟨o2,q1,q2⟩:=q.2 h2
     rw [hfo] at q1;cases q1;exact q2
    ·cases g2
  ·rw [if_neg (by rw [decide_eq_false h2];simp)]
   rw [h1]
   exact congrArg some (decide_eq_true (show FitP x.Objects v from ⟨h1,fun q=>absurd q h2⟩)).symm
 ·rw [if_neg h1,Bool.eq_false_iff.2 h1]
  exact congrArg some (decide_eq_false (fun q:FitP x.Objects v=>h1 q.1)).symm
theorem zme {α:Type} (xs:List α) (p:α->Prop):(∀ (i:Nat) a,0<=i->xs[i]? = some a->p a) ↔ ∀ a ∈ xs,p a:=by
 constructor
 ·intro h a ha
  obtain ⟨i,hi,e⟩:=List.mem_iff_getElem.1 ha
  exact h i a (Nat.zero_le _) (by rw [List.getElem?_eq_getElem hi,e])
 ·intro h i a _ hg;exact h a (zfg hg)
theorem zhZ (H:THeap) (vs:List TValue) (h:H.Objects.length<=1048576) (hv:vs.length<=1099511627776):zeJ H vs=some (decide (∀ v ∈ vs,FitP H.Objects v)):=by
 unfold zeJ
 rw [zdQ vs vs.length (zeN H vs) (fun v=>zep H v) (fun v=>decide (FitP H.Objects v)) (fun i=>zeN.eq_1 ..) rfl hv (fun a _=>zhl H a h),zkg]
 by_cases hS:∀ b ∈ vs,FitP H.Objects b
 ·rw [decide_eq_true hS];rfl
 ·rw [decide_eq_false hS];rfl
theorem zgL (x:THeap) (vs:List TValue) (h:x.Objects.length<=1048576) (hv:vs.length<=1099511627776) (hS:SrtI TObject.Id x.Objects):zbP vs x=some (decide (∀ v ∈ vs,FitP x.Objects v)):=by
 unfold zbP
 rw [zdQ vs vs.length (zcu vs x vs vs.length) (fun v=>zdZ x v) (fun v=>decide (FitP x.Objects v)) (fun i=>zcu.eq_1 ..) rfl hv (fun a _=>zkt x a h hS),zkg]
 by_cases hA:∀ b ∈ vs,FitP x.Objects b
 ·rw [decide_eq_true hA];rfl
 ·rw [decide_eq_false hA];rfl
def zix (os:List TObject) (o:TObject):Prop:=(∀ v ∈ o.Keys,FitP os v)∧(∀ v ∈ o.Vals,FitP os v)∧(o.Kind=2->FitP os o.Default)
def zjw (x:THeap):Prop:=(0<=x.Next∧x.Next<=1000000)∧x.Objects.length<=40∧(∀ o ∈ x.Objects,ObjP o)∧(∀ o ∈ x.Objects,o.Id<=x.Next)∧SrtI TObject.Id x.Objects∧∀ o ∈ x.Objects,zix x.Objects o
theorem znf (H:THeap) (o:TObject) (h:H.Objects.length<=1048576) (hk:o.Keys.length<=1048576) (hv:o.Vals.length<=1048576) :
  zin H o=some (decide (zix H.Objects o)):=by
 unfold zin
 rw [zhZ H o.Keys h (by omega),zhZ H o.Vals h (by omega)]
 simp only [Option.bind_eq_bind,Option.bind_some]
 by_cases h1:∀ v ∈ o.Keys,FitP H.Objects v
 ·rw [if_pos (decide_eq_true h1)]
  by_cases h2:∀ v ∈ o.Vals,FitP H.Objects v
  ·rw [if_pos (decide_eq_true h2)]
   by_cases h3:o.Kind=2
   ·rw [if_pos h3]
    have:=zhl H o.Default h
    rw [show o.Default=TValue.mk o.Default.Kind o.Default.Num o.Default.Text o.Default.Ref from rfl] at this
    rw [this]
    simp only [Option.bind_some]
    exact congrArg some (decide_eq_decide.2 ⟨fun q=>⟨h1,h2,fun _=>q⟩,fun q=>q.2.2 h3⟩)
   ·rw [if_neg h3]
    exact congrArg some (decide_eq_true (show zix H.Objects o from ⟨h1,h2,fun q=>absurd q h3⟩)).symm
  ·rw [if_neg (by rw [decide_eq_false h2];simp)]
   exact congrArg some (decide_eq_false (fun q:zix H.Objects o=>h2 q.2.1)).symm
 ·rw [if_neg (by rw [decide_eq_false h1];simp)]
  exact congrArg some (decide_eq_false (fun q:zix H.Objects o=>h1 q.1)).symm
theorem zuT (o:TObject) {m:Nat} (h:TObject.n o<=m):o.Keys.length<=m∧o.Vals.length<=m:=by simp only [TObject.n] at h;omega
theorem ziy {α:Type} (nm:α->Int):∀ (xs:List α),SrtI nm xs ↔ ∀ (i:Nat) a b,xs[i]? = some a->xs[i + 1]? = some b->nm a<nm b
 | []=>⟨fun _ i a b h=>(by cases h),fun _=>.nil⟩
 | a::r=>by
  constructor
  ·intro h i x y hx hy
   cases h with
   | cons h1 h2 =>
    cases i with
    | zero=>cases hx;exact h1 y (zfg hy)
    | succ i=>exact (ziy nm r).1 h2 i x y hx hy
  ·intro h
   have ht:=(ziy nm r).2 (fun i x y hx hy=>h (i + 1) x y hx hy)
   refine .cons (fun b hb=>?_) ht
   cases r with
   | nil=>cases hb
   | cons c r' =>
    have h0:=h 0 a c rfl rfl
    cases ht with
    | cons g1 g2 =>
     rcases List.mem_cons.1 hb with e|e
     ·subst e;exact h0
     ·have:=g1 b e;omega
end Go.Vx.RmZ

