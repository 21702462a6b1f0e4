/-
  Lists of values: valid, all different, names of fields.
-/
import Derived.Test.YtnaaflejkfaiaaaGreatP2
set_option linter.unusedVariables false
set_option linter.unusedSimpArgs false
namespace Go.Vx.RmZ
open Classical
theorem veq (a b:TValue):((decide (a.Kind=b.Kind)) && ((decide (a.Num=b.Num)) && ((decide (a.Text=b.Text)) && (decide (a.Ref=b.Ref)))))=decide (a=b):=by
 obtain ⟨k,n,t,r⟩:=a
 obtain ⟨k',n',t',r'⟩:=b
 rw [<- dand,<- dand,<- dand]
 exact decide_eq_decide.2 ⟨fun h=>by obtain ⟨rfl,rfl,rfl,rfl⟩:=h;rfl,fun h=>by cases h;exact ⟨rfl,rfl,rfl,rfl⟩⟩
theorem znc (a b:TValue):zgy a b=some (decide (a=b)):=by
 unfold zgy
 rw [veq]
theorem ziw (xs:List TValue) (h:xs.length<=1099511627776):zen xs=some (decide xs.Nodup):=by
 unfold zen
 have inner:∀ (i:Nat) (a:TValue),xs[i]? = some a->zcK xs i 0=if (∀ j:Nat,j<i->xs[j]? ≠ some a) then some (.inl ()) else some (.inr false):=by
  intro i a hg
  have hi:i<xs.length:=(List.getElem?_eq_some_iff.1 hg).1
  have hl:(xs.take i).length=i:=by rw [List.length_take];omega
  have hh:=zdE (xs.take i) (zcK xs i) false (fun j b=>a ≠ b) 0 (Nat.zero_le _) ?_ ?_ ?_
  ·rw [show ((0:Nat):Int)=0 from rfl] at hh
   rw [hh]
   have hiff:(∀ (j:Nat) b,0<=j->(xs.take i)[j]? = some b->a ≠ b) ↔ (∀ j:Nat,j<i->xs[j]? ≠ some a):=by
    constructor
    ·intro q j hj e
     exact q j a (Nat.zero_le _) (by rw [List.getElem?_take_of_lt hj];exact e) rfl
    ·intro q j b _ e hab
     have hj:j<i:=by have:=(List.getElem?_eq_some_iff.1 e).1;omega
     rw [List.getElem?_take_of_lt hj] at e
     exact q j hj (by rw [e,hab])
   by_cases hS:∀ j:Nat,j<i->xs[j]? ≠ some a
   ·rw [if_pos hS,if_pos (hiff.2 hS)]
   ·rw [if_neg hS,if_neg (fun e=>hS (hiff.1 e))]
  ·intro j b _ hj e hab
   rw [hl] at hj
   rw [List.getElem?_take_of_lt hj] at e
   rw [zcK.eq_1,if_pos (by omega)]
   simp only [zat,hg,e,znc,Option.bind_eq_bind,Option.bind_some]
   rw [if_neg (by rw [decide_eq_false hab];simp),w64 (by omega) (by omega)]
  ·intro j b _ hj e hab
   rw [hl] at hj
   rw [List.getElem?_take_of_lt hj] at e
   rw [zcK.eq_1,if_pos (by omega)]
   simp only [zat,hg,e,znc,Option.bind_eq_bind,Option.bind_some]
   rw [if_pos (decide_eq_true (Classical.not_not.1 hab))]
  ·rw [hl,zcK.eq_1,if_neg (by omega)]
 have hh:=zdE xs (zdR xs) false (fun i a=>∀ j:Nat,j<i->xs[j]? ≠ some a) 0 (Nat.zero_le _) ?_ ?_ ?_
 ·rw [show ((0:Nat):Int)=0 from rfl] at hh
  rw [hh]
  have hiff:(∀ (i:Nat) a,0<=i->xs[i]? = some a->∀ j:Nat,j<i->xs[j]? ≠ some a) ↔ xs.Nodup:=by
   rw [zmF]
   constructor
   ·intro q i j hij hj e
    exact q j _ (Nat.zero_le _) (List.getElem?_eq_getElem hj) i hij (e.trans (List.getElem?_eq_getElem hj))
   ·intro q i a _ hg j hj e
    exact q j i hj (List.getElem?_eq_some_iff.1 hg).1 (e.trans hg.symm)
  by_cases hS:xs.Nodup
  ·rw [if_pos (hiff.2 hS),decide_eq_true hS];rfl
  ·rw [if_neg (fun e=>hS (hiff.1 e)),decide_eq_false hS];rfl
 ·intro i a _ hi hg hp
  rw [zdR.eq_1,if_pos (by omega),inner i a hg,if_pos hp]
  simp only [Option.bind_eq_bind,Option.bind_some]
  rw [w64 (by omega) (by omega)]
 ·intro i a _ hi hg hp
  rw [zdR.eq_1,if_pos (by omega),inner i a hg,if_neg hp]
  rfl
 ·rw [zdR.eq_1,if_neg (by omega)]
theorem zmd (xs:List TValue) (a:TValue) (h:xs.length<=1099511627776):zaK xs a=some (decide (a ∈ xs)):=by
 unfold zaK zch
 have key:=zdP xs (fun i rest=>zam xs a xs.length (i:Int)=if a ∈ rest then some (.inr ((i + rest.findIdx (fun b=>decide (b=a)):Nat):Int)) else some (.inl ())) ?_ ?_
 ·rw [show ((0:Nat):Int)=0 from rfl] at key
  rw [key]
  by_cases hm:a ∈ xs
  ·rw [if_pos hm]
   simp only [Option.bind_eq_bind,Option.bind_some]
   refine congrArg some (decide_eq_decide.2 ?_)
   simp only [hm,iff_true]
   omega
  ·rw [if_neg hm]
   simp only [Option.bind_eq_bind,Option.bind_some]
   refine congrArg some (decide_eq_decide.2 ?_)
   simp only [hm,iff_false]
   omega
 ·rw [zam.eq_1,if_neg (by omega)]
  rw [if_neg (by simp)]
 ·intro i b rest hi hg hd ih
  have ih':zam xs a xs.length ((i:Int) + 1)=_:=ih
  rw [zam.eq_1,if_pos (by omega)]
  simp only [zat,hg,Option.bind_eq_bind,Option.bind_some]
  rw [w64 (by omega) (by omega),ih',List.findIdx_cons]
  have hba:(a.Kind=b.Kind∧a.Num=b.Num∧a.Text=b.Text∧a.Ref=b.Ref) ↔ a=b:=by
   have:=veq a b
   rw [<- dand,<- dand,<- dand] at this
   exact decide_eq_decide.1 this
  by_cases he:a=b
  ·subst he
   simp
  ·rw [decide_eq_false (fun e=>he e.symm)]
   have hne:¬ (a.Kind=b.Kind∧a.Num=b.Num∧a.Text=b.Text∧a.Ref=b.Ref):=fun e=>he (hba.1 e)
   have hm:(a ∈ b::rest) ↔ a ∈ rest:=by simp [he]
   have hr:(if a ∈ rest then (some (.inr ((i + 1 + rest.findIdx (fun b=>decide (b=a)):Nat):Int)):Option (Unit ⊕ Int)) else some (.inl ()))=if a ∈ b::rest then some (.inr ((i + (rest.findIdx (fun b=>decide (b=a)) + 1):Nat):Int)) else some (.inl ()):=by
    by_cases hq:a ∈ rest
    ·rw [if_pos hq,if_pos (hm.2 hq)]
     refine congrArg (fun z:Nat=>(some (.inr (z:Int)):Option (Unit ⊕ Int))) (by omega)
    ·rw [if_neg hq,if_neg (fun e=>hq (hm.1 e))]
   simp only [cond_false]
   rw [<- hr]
   by_cases h1:a.Kind=b.Kind
   ·rw [if_pos h1]
    by_cases h2:a.Num=b.Num
    ·rw [if_pos h2]
     by_cases h3:a.Text=b.Text
     ·rw [if_pos h3,if_neg (fun h4=>hne ⟨h1,h2,h3,h4⟩)]
     ·rw [if_neg h3]
    ·rw [if_neg h2]
   ·rw [if_neg h1]
theorem ztL (xs:List TValue) (h:xs.length<=1099511627776):zdI xs=some (decide xs.Nodup):=by
 unfold zdI
 have hh:=zdE xs (zdv xs xs xs.length) false (fun i a=>a ∉ xs.take i) 0 (Nat.zero_le _) ?_ ?_ ?_
 ·rw [show ((0:Nat):Int)=0 from rfl] at hh
  rw [hh]
  have hiff:(∀ (i:Nat) a,0<=i->xs[i]? = some a->a ∉ xs.take i) ↔ xs.Nodup:=by
   rw [zmF]
   constructor
   ·intro q i j hij hj e
    have hg:=List.getElem?_eq_getElem hj
    refine q j _ (Nat.zero_le _) hg (List.mem_of_getElem? (i:=i) ?_)
    rw [List.getElem?_take_of_lt hij];exact e.trans hg
   ·intro q i a _ hg hm
    obtain ⟨j,hj,e⟩:=List.mem_iff_getElem.1 hm
    have hji:j<i:=by rw [List.length_take] at hj;omega
    refine q j i hji (List.getElem?_eq_some_iff.1 hg).1 ?_
    have:=List.getElem?_eq_getElem hj
    rw [List.getElem?_take_of_lt hji,e] at this
    rw [this,hg]
  by_cases hS:xs.Nodup
  ·rw [if_pos (hiff.2 hS),decide_eq_true hS];rfl
  ·rw [if_neg (fun e=>hS (hiff.1 e)),decide_eq_false hS];rfl
 all_goals
  try
   intro i a _ hi hg hp
   have hc:zaK (xs.take i) a=some (decide (a ∈ xs.take i)):=zmd _ _ (by rw [List.length_take];omega)
   have hsub:subH xs (i:Int)=some (xs.take i):=by unfold subH;rw [if_pos (by omega)];simp
   rw [zdv.eq_1,if_pos (by omega)]
   simp only [zat,hg,hsub,hc,Option.bind_eq_bind,Option.bind_some]
 ·rw [if_neg (by rw [decide_eq_false hp];simp),w64 (by omega) (by omega)]
 ·rw [if_pos (decide_eq_true (Classical.not_not.1 hp))]
 ·rw [zdv.eq_1,if_neg (by omega)]
theorem znd (xs:List TValue) (h:xs.length<=1099511627776):zdH xs=some (xs.all vOK):=by
 unfold zdH
 rw [zdQ xs xs.length (zdu xs xs xs.length) zbn vOK (fun i=>zdu.eq_1 ..) rfl h (fun a _=>zdo a)]
 cases xs.all vOK <;> rfl
theorem zkr (xs:List TValue) (n:Int) (h:xs.length<=1099511627776):zbO xs n=some (decide ((xs.length:Int)<=n) && xs.all vOK):=by
 unfold zbO
 rw [zdQ xs xs.length (zcs xs n) zbT vOK (fun i=>zcs.eq_1 ..) rfl h (fun a _=>zeF a)]
 by_cases hn:(xs.length:Int)<=n
 ·rw [if_neg (by omega),decide_eq_true hn,Bool.true_and]
  cases xs.all vOK <;> rfl
 ·rw [if_pos (by omega),decide_eq_false hn,Bool.false_and]
def ziY (v:TValue):Bool:=decide (v.Kind=1∧v.Num=0∧v.Ref=0) && zdn v.Text
theorem zne (v:TValue):zhg v=some (ziY v):=by
 unfold zhg zjG ziY
 simp only [zfJ,Option.bind_eq_bind,Option.bind_some]
 by_cases h1:v.Kind=1 <;> by_cases h2:v.Num=0 <;> by_cases h3:v.Ref=0 <;> simp [h1,h2,h3]
theorem zqf (xs:List TValue) (h:xs.length<=1099511627776):zdT xs=some (xs.all ziY):=by
 unfold zdT
 rw [zdQ xs xs.length (zct xs xs xs.length) zhg ziY (fun i=>zct.eq_1 ..) rfl h (fun a _=>zne a)]
 cases xs.all ziY <;> rfl
theorem zzg (v:TValue) (h:ziY v=true):vOK v=true:=by
 unfold ziY at h
 simp only [Bool.and_eq_true,decide_eq_true_eq] at h
 obtain ⟨⟨h1,h2,h3⟩,h4⟩:=h
 have hs:v.Text.size<=12:=by
  unfold zdn at h4
  split at h4
  ·cases h4
  ·rename_i c r e
   have:(strI v.Text).length=v.Text.size:=zij _
   rw [e] at this
   simp only [Bool.and_eq_true,decide_eq_true_eq] at h4
   omega
 unfold vOK
 rw [if_pos h1]
 simp only [h2,h3,decide_true,Bool.true_and,decide_eq_true_eq]
 omega
def zhk (xs:List TValue):Prop:=1<=xs.length∧xs.length<=6∧(∀ v ∈ xs,ziY v=true)∧xs.Nodup
theorem zon (xs:List TValue) (h:xs.length<=1099511627776):zeo xs=some (decide (zhk xs)):=by
 unfold zeo
 have hh:=zdE xs (zcV xs) false (fun i a=>a.Kind=1∧zdn a.Text=true) 0 (Nat.zero_le _) ?_ ?_ ?_
 ·rw [show ((0:Nat):Int)=0 from rfl] at hh
  rw [hh,zkr xs 6 h,ziw xs h]
  simp only [Option.bind_eq_bind,Option.bind_some]
  by_cases hA:∀ (i:Nat) a,0<=i->xs[i]? = some a->a.Kind=1∧zdn a.Text=true
  ·have hA':∀ v ∈ xs,v.Kind=1∧zdn v.Text=true:=fun v hv=>by
    obtain ⟨i,hi,e⟩:=List.mem_iff_getElem.1 hv
    exact hA i v (Nat.zero_le _) (by rw [List.getElem?_eq_getElem hi,e])
   rw [if_pos hA]
   simp only [Option.bind_some]
   by_cases h1:1<=xs.length
   ·rw [if_pos (show (xs.length:Int) ≥ 1 by omega)]
    by_cases h2:(decide ((xs.length:Int)<=6) && xs.all vOK)=true
    ·rw [if_pos h2]
     simp only [Bool.and_eq_true,decide_eq_true_eq,List.all_eq_true] at h2
     refine congrArg some (decide_eq_decide.2 ⟨fun q=>⟨h1,by omega,fun v hv=>?_,q⟩,fun q=>q.2.2.2⟩)
     have e1:=hA' v hv
     have e2:=h2.2 v hv
     unfold vOK at e2
     rw [if_pos e1.1] at e2
     simp only [Bool.and_eq_true,decide_eq_true_eq] at e2
     unfold ziY
     rw [decide_eq_true ⟨e1.1,e2.1.1,e2.1.2⟩,e1.2];rfl
    ·rw [if_neg h2]
     refine congrArg some (decide_eq_false (fun q:zhk xs=>h2 ?_)).symm
     simp only [Bool.and_eq_true,decide_eq_true_eq,List.all_eq_true]
     exact ⟨by have:=q.2.1;omega,fun v hv=>zzg v (q.2.2.1 v hv)⟩
   ·rw [if_neg (show ¬ (xs.length:Int) ≥ 1 by omega)]
    exact congrArg some (decide_eq_false (fun q:zhk xs=>h1 q.1)).symm
  ·rw [if_neg hA]
   refine congrArg some (decide_eq_false (fun q:zhk xs=>hA fun i a _ hg=>?_)).symm
   have:=q.2.2.1 a (zfg hg)
   unfold ziY at this
   simp only [Bool.and_eq_true,decide_eq_true_eq] at this
   exact ⟨this.1.1,this.2⟩
 ·intro i a _ hi hg hp
  rw [zcV.eq_1,if_pos (by omega)]
  simp only [zat,hg,zea,Option.bind_eq_bind,Option.bind_some]
  rw [if_pos hp.1,if_pos hp.2,w64 (by omega) (by omega)]
 ·intro i a _ hi hg hp
  rw [zcV.eq_1,if_pos (by omega)]
  simp only [zat,hg,zea,Option.bind_eq_bind,Option.bind_some]
  by_cases h1:a.Kind=1
  ·rw [if_pos h1,if_neg (fun h2=>hp ⟨h1,h2⟩)]
  ·rw [if_neg h1]
 ·rw [zcV.eq_1,if_neg (by omega)]
end Go.Vx.RmZ

