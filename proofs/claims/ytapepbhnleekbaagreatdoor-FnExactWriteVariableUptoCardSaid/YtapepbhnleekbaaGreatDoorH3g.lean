/-
  Heaps that are valid.
-/
import Derived.Test.YtapepbhnleekbaaGreatDoorH2
set_option linter.unusedVariables false
set_option linter.unusedSimpArgs false
namespace Go.Vx.WvZ
open Classical
def FitP (os:List TObject) (v:TValue):Prop:=vOK v=true∧(4<=v.Kind∧v.Kind<=6->∃ o,os.find? (fun o=>decide (o.Id=v.Ref))=some o∧o.Kind=v.Kind - 3)
theorem zCr (k:Int) (h:4<=k∧k<=6):IntKind.wrap .i64 (IntKind.wrap .i64 (k - 4) + 1)=k - 3:=by
 rw [w64 (n:=k - 4) (by omega) (by omega),w64 (by omega) (by omega)];omega
theorem zqr (H:THeap) (r:Int) (h:H.Objects.length<=1048576):zhK H r=some (match H.Objects.findIdx? fun o=>decide (o.Id=r) with
  | some i=>(i:Int)
  | none=>-1):=by
 unfold zhK
 have key:=zbD H.Objects (fun i rest=>zei H r (i:Int)=match rest.findIdx? fun o=>decide (o.Id=r) with
  | some j=>some (.inr ((i + j:Nat):Int))
  | none=>some (.inl ())) ?_ ?_
 ·rw [show ((0:Nat):Int)=0 from rfl] at key
  rw [key]
  cases H.Objects.findIdx? fun o=>decide (o.Id=r) with
  | none=>rfl
  | some j=>simp
 ·rw [zei.eq_1,if_neg (by omega)];rfl
 ·intro i a rest hi hg hd ih
  have ih':zei H r ((i:Int) + 1)=_:=ih
  rw [zei.eq_1,if_pos (by omega)]
  simp only [zao,hg,Option.bind_eq_bind,Option.bind_some]
  rw [List.findIdx?_cons,w64 (by omega) (by omega),ih']
  by_cases he:a.Id=r
  ·simp [he]
  ·rw [if_neg he,decide_eq_false he]
   cases rest.findIdx? fun o=>decide (o.Id=r) with
   | none=>rfl
   | some j=>simp;omega
theorem fidx {α:Type} (p:α->Bool) (l:List α):(∃ i,∃ h:i<l.length,l.findIdx? p=some i∧l.find? p=some l[i]) ∨ (l.findIdx? p=none∧l.find? p=none):=by
 cases hi:l.findIdx? p with
 | none =>
  right
  refine ⟨rfl,?_⟩
  rw [List.find?_eq_none]
  intro a ha
  have:=List.findIdx?_eq_none_iff.1 hi a ha
  simp [this]
 | some i =>
  left
  obtain ⟨hlt,hp,hn⟩:=List.findIdx?_eq_some_iff_getElem.1 hi
  refine ⟨i,hlt,rfl,?_⟩
  rw [List.find?_eq_some_iff_getElem]
  exact ⟨hp,i,hlt,rfl,fun j hj=>by simpa using hn j hj⟩
theorem zia (H:THeap) (v:TValue) (h:H.Objects.length<=1048576):zeZ H v=some (decide (FitP H.Objects v)):=by
 unfold zeZ zin zeY
 simp only [zcC,zgK,zqr H v.Ref h,Option.bind_eq_bind,Option.bind_some]
 by_cases h1:vOK v=true
 ·rw [if_pos h1]
  by_cases h2:4<=v.Kind∧v.Kind<=6
  ·rw [if_pos (decide_eq_true h2),zCr _ h2]
   rcases fidx (fun o:TObject=>decide (o.Id=v.Ref)) H.Objects with ⟨i,hi,e1,e2⟩|⟨e1,e2⟩
   ·rw [e1]
    simp only []
    rw [if_pos (by omega),zao,List.getElem?_eq_getElem hi]
    simp only [Option.bind_some]
    refine congrArg some (decide_eq_decide.2 ⟨fun q=>⟨h1,fun _=>⟨_,e2,q⟩⟩,fun q=>?_⟩)
    obtain ⟨o,q1,q2⟩:=q.2 h2
    rw [e2] at q1;cases q1;exact q2
   ·rw [e1]
    simp only []
    rw [if_neg (by omega)]
    refine congrArg some (decide_eq_false (fun q:FitP H.Objects v=>?_)).symm
    obtain ⟨o,q1,q2⟩:=q.2 h2
    rw [e2] at q1;cases q1
  ·rw [if_neg (by rw [decide_eq_false h2];simp)]
   exact congrArg some (decide_eq_true (show FitP H.Objects v from ⟨h1,fun q=>absurd q h2⟩)).symm
 ·rw [if_neg h1]
  exact congrArg some (decide_eq_false (fun q:FitP H.Objects v=>h1 q.1)).symm
theorem znb (x:THeap) (v:TValue) (h:x.Objects.length<=1048576) (hS:SrtI TObject.Id x.Objects):zeb x v=some (decide (FitP x.Objects v)):=by
 have hfind:zgg x v.Ref=some (match x.Objects.find? fun o=>decide (o.Id=v.Ref) with
   | some o=>((posQ (fun o:TObject=>decide (o.Id<v.Ref)) x.Objects:Nat):Int)
   | none=>-1):=by
  unfold zgg zaE
  have hc:∀ a:TObject,zdO a v.Ref=some (if a.Id<v.Ref then -1 else if a.Id > v.Ref then 1 else 0):=fun a=>by
   simp only [zdO,zea,zdN,Option.bind_eq_bind,Option.bind_some,Bool.false_eq_true,if_false]
   by_cases q1:a.Id<v.Ref
   ·rw [if_pos q1,if_pos q1];rfl
   ·rw [if_neg q1,if_neg q1]
    by_cases q2:a.Id > v.Ref
    ·rw [if_pos q2,if_pos q2];rfl
    ·rw [if_neg q2,if_neg q2];rfl
  rw [zpO (fun o:TObject=>decide (o.Id<v.Ref)) x.Objects (by omega) (fun i a hg=>znz hS i a hg) (zai x.Objects v.Ref x.Objects.length) ?_]
  ·simp only [Option.bind_eq_bind,Option.bind_some]
   rw [zjy hS v.Ref]
   by_cases hlt:posQ (fun o:TObject=>decide (o.Id<v.Ref)) x.Objects<x.Objects.length
   ·have hg:=List.getElem?_eq_getElem hlt
    have hp:=znz hS (x:=v.Ref) _ _ hg
    have hnl:¬ x.Objects[posQ (fun o:TObject=>decide (o.Id<v.Ref)) x.Objects].Id<v.Ref:=fun e=>absurd (hp.1 (decide_eq_true e)) (Nat.lt_irrefl _)
    rw [if_pos (by omega),zao,hg]
    simp only [Option.bind_some,hc]
    rw [if_neg hnl]
    by_cases he:x.Objects[posQ (fun o:TObject=>decide (o.Id<v.Ref)) x.Objects].Id=v.Ref
    ·have hg':¬ x.Objects[posQ (fun o:TObject=>decide (o.Id<v.Ref)) x.Objects].Id > v.Ref:=by omega
     simp [hg',he]
    ·have hg':x.Objects[posQ (fun o:TObject=>decide (o.Id<v.Ref)) x.Objects].Id > v.Ref:=by omega
     simp [hg',he]
   ·rw [if_neg (by omega),List.getElem?_eq_none (by omega)];rfl
  ·intro lo hi
   rw [zai.eq_1]
   by_cases hlt:(lo:Int)<hi
   ·rw [if_pos hlt,if_pos hlt]
    simp only [hc,Option.bind_eq_bind,Option.bind_some]
    congr 1
    funext a
    by_cases q1:a.Id<v.Ref
    ·rw [if_pos q1,if_pos (by omega),if_pos (decide_eq_true q1)]
    ·rw [if_neg q1,if_neg (show ¬ decide (a.Id<v.Ref)=true by simpa using q1)]
     by_cases q2:a.Id > v.Ref
     ·rw [if_pos q2,if_neg (by omega)]
     ·rw [if_neg q2,if_neg (by omega)]
   ·rw [if_neg hlt,if_neg hlt]
 unfold zeb zfC zlB zgH
 simp only [zcD,zdv,hfind,Option.bind_eq_bind,Option.bind_some]
 by_cases h1:vOK v=true
 ·rw [if_pos h1]
  by_cases h2:4<=v.Kind∧v.Kind<=6
  ·rw [if_pos (decide_eq_true h2),zCr _ h2]
   cases hf:x.Objects.find? fun o=>decide (o.Id=v.Ref) with
   | none =>
    simp only []
    rw [if_neg (by omega)]
    refine congrArg some (decide_eq_false (fun q:FitP x.Objects v=>?_)).symm
    obtain ⟨o,q1,q2⟩:=q.2 h2
    rw [hf] at q1;cases q1
   | some o =>
    have hfo:=hf
    rw [zjy hS v.Ref] at hf
    obtain ⟨o',g1,g2⟩:=Option.bind_eq_some_iff.1 hf
    split at g2
    ·cases g2
     simp only []
     rw [if_pos (by omega),zao,g1]
     simp only [Option.bind_some]
     refine congrArg some (decide_eq_decide.2 ⟨fun q=>⟨h1,fun _=>⟨_,hfo,q⟩⟩,fun q=>?_⟩)
     obtain ⟨o2,q1,q2⟩:=q.2 h2
     rw [hfo] at q1;cases q1;exact q2
    ·cases g2
  ·rw [if_neg (by rw [decide_eq_false h2];simp)]
   rw [h1]
   exact congrArg some (decide_eq_true (show FitP x.Objects v from ⟨h1,fun q=>absurd q h2⟩)).symm
 ·rw [if_neg h1,Bool.eq_false_iff.2 h1]
  exact congrArg some (decide_eq_false (fun q:FitP x.Objects v=>h1 q.1)).symm
theorem zog {α:Type} (xs:List α) (p:α->Prop):(∀ (i:Nat) a,0<=i->xs[i]? = some a->p a) ↔ ∀ a ∈ xs,p a:=by
 constructor
 ·intro h a ha
  obtain ⟨i,hi,e⟩:=List.mem_iff_getElem.1 ha
  exact h i a (Nat.zero_le _) (by rw [List.getElem?_eq_getElem hi,e])
 ·intro h i a _ hg;exact h a (zga hg)
theorem zjU (H:THeap) (vs:List TValue) (h:H.Objects.length<=1048576) (hv:vs.length<=1099511627776):zfa H vs=some (decide (∀ v ∈ vs,FitP H.Objects v)):=by
 unfold zfa
 rw [zbu vs vs.length (zee H vs) (fun v=>zeZ H v) (fun v=>decide (FitP H.Objects v)) (fun i=>zee.eq_1 ..) rfl hv (fun a _=>zia H a h),zlf]
 by_cases hS:∀ b ∈ vs,FitP H.Objects b
 ·rw [decide_eq_true hS];rfl
 ·rw [decide_eq_false hS];rfl
theorem zhv (x:THeap) (vs:List TValue) (h:x.Objects.length<=1048576) (hv:vs.length<=1099511627776) (hS:SrtI TObject.Id x.Objects):zcf vs x=some (decide (∀ v ∈ vs,FitP x.Objects v)):=by
 unfold zcf
 rw [zbu vs vs.length (zbW vs x vs vs.length) (fun v=>zeb x v) (fun v=>decide (FitP x.Objects v)) (fun i=>zbW.eq_1 ..) rfl hv (fun a _=>znb x a h hS),zlf]
 by_cases hA:∀ b ∈ vs,FitP x.Objects b
 ·rw [decide_eq_true hA];rfl
 ·rw [decide_eq_false hA];rfl
def zib (os:List TObject) (o:TObject):Prop:=(∀ v ∈ o.Keys,FitP os v)∧(∀ v ∈ o.Vals,FitP os v)∧(o.Kind=2->FitP os o.Default)
def zhw (x:THeap):Prop:=(0<=x.Next∧x.Next<=1000000)∧x.Objects.length<=40∧(∀ o ∈ x.Objects,ObjP o)∧(∀ o ∈ x.Objects,o.Id<=x.Next)∧SrtI TObject.Id x.Objects∧∀ o ∈ x.Objects,zib x.Objects o
theorem znc (H:THeap) (o:TObject) (h:H.Objects.length<=1048576) (hk:o.Keys.length<=1048576) (hv:o.Vals.length<=1048576) :
  zhL H o=some (decide (zib H.Objects o)):=by
 unfold zhL
 rw [zjU H o.Keys h (by omega),zjU H o.Vals h (by omega)]
 simp only [Option.bind_eq_bind,Option.bind_some]
 by_cases h1:∀ v ∈ o.Keys,FitP H.Objects v
 ·rw [if_pos (decide_eq_true h1)]
  by_cases h2:∀ v ∈ o.Vals,FitP H.Objects v
  ·rw [if_pos (decide_eq_true h2)]
   by_cases h3:o.Kind=2
   ·rw [if_pos h3]
    have:=zia H o.Default h
    rw [show o.Default=TValue.mk o.Default.Kind o.Default.Num o.Default.Text o.Default.Ref from rfl] at this
    rw [this]
    simp only [Option.bind_some]
    exact congrArg some (decide_eq_decide.2 ⟨fun q=>⟨h1,h2,fun _=>q⟩,fun q=>q.2.2 h3⟩)
   ·rw [if_neg h3]
    exact congrArg some (decide_eq_true (show zib H.Objects o from ⟨h1,h2,fun q=>absurd q h3⟩)).symm
  ·rw [if_neg (by rw [decide_eq_false h2];simp)]
   exact congrArg some (decide_eq_false (fun q:zib H.Objects o=>h2 q.2.1)).symm
 ·rw [if_neg (by rw [decide_eq_false h1];simp)]
  exact congrArg some (decide_eq_false (fun q:zib H.Objects o=>h1 q.1)).symm
theorem zuH (o:TObject) {m:Nat} (h:TObject.n o<=m):o.Keys.length<=m∧o.Vals.length<=m:=by simp only [TObject.n] at h;omega
theorem zlT {α:Type} (nm:α->Int):∀ (xs:List α),SrtI nm xs ↔ ∀ (i:Nat) a b,xs[i]? = some a->xs[i + 1]? = some b->nm a<nm b
 | []=>⟨fun _ i a b h=>(by cases h),fun _=>.nil⟩
 | a::r=>by
  constructor
  ·intro h i x y hx hy
   cases h with
   | cons h1 h2 =>
    cases i with
    | zero=>cases hx;exact h1 y (zga hy)
    | succ i=>exact (zlT nm r).1 h2 i x y hx hy
  ·intro h
   have ht:=(zlT nm r).2 (fun i x y hx hy=>h (i + 1) x y hx hy)
   refine .cons (fun b hb=>?_) ht
   cases r with
   | nil=>cases hb
   | cons c r' =>
    have h0:=h 0 a c rfl rfl
    cases ht with
    | cons g1 g2 =>
     rcases List.mem_cons.1 hb with e|e
     ·subst e;exact h0
     ·have:=g1 b e;omega
end Go.Vx.WvZ

