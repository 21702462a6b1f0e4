/-
  Lists of values: valid, all different, names of fields.
-/
import Derived.Test.YtapepbhnleekbaaGreatDoorP2
set_option linter.unusedVariables false
set_option linter.unusedSimpArgs false
namespace Go.Vx.WvZ
open Classical
theorem veq (a b:TValue):((decide (a.Kind=b.Kind)) && ((decide (a.Num=b.Num)) && ((decide (a.Text=b.Text)) && (decide (a.Ref=b.Ref)))))=decide (a=b):=by
 obtain ⟨k,n,t,r⟩:=a
 obtain ⟨k',n',t',r'⟩:=b
 rw [<- dand,<- dand,<- dand]
 exact decide_eq_decide.2 ⟨fun h=>by obtain ⟨rfl,rfl,rfl,rfl⟩:=h;rfl,fun h=>by cases h;exact ⟨rfl,rfl,rfl,rfl⟩⟩
theorem zmY (a b:TValue):zgb a b=some (decide (a=b)):=by
 unfold zgb
 rw [veq]
theorem zhZ (xs:List TValue) (h:xs.length<=1099511627776):zdE xs=some (decide xs.Nodup):=by
 unfold zdE
 have inner:∀ (i:Nat) (a:TValue),xs[i]? = some a->zcd xs i 0=if (∀ j:Nat,j<i->xs[j]? ≠ some a) then some (.inl ()) else some (.inr false):=by
  intro i a hg
  have hi:i<xs.length:=(List.getElem?_eq_some_iff.1 hg).1
  have hl:(xs.take i).length=i:=by rw [List.length_take];omega
  have hh:=zdB (xs.take i) (zcd xs i) false (fun j b=>a ≠ b) 0 (Nat.zero_le _) ?_ ?_ ?_
  ·rw [show ((0:Nat):Int)=0 from rfl] at hh
   rw [hh]
   have hiff:(∀ (j:Nat) b,0<=j->(xs.take i)[j]? = some b->a ≠ b) ↔ (∀ j:Nat,j<i->xs[j]? ≠ some a):=by
    constructor
    ·intro q j hj e
     exact q j a (Nat.zero_le _) (by rw [List.getElem?_take_of_lt hj];exact e) rfl
    ·intro q j b _ e hab
     have hj:j<i:=by have:=(List.getElem?_eq_some_iff.1 e).1;omega
     rw [List.getElem?_take_of_lt hj] at e
     exact q j hj (by rw [e,hab])
   by_cases hS:∀ j:Nat,j<i->xs[j]? ≠ some a
   ·rw [if_pos hS,if_pos (hiff.2 hS)]
   ·rw [if_neg hS,if_neg (fun e=>hS (hiff.1 e))]
  ·intro j b _ hj e hab
   rw [hl] at hj
   rw [List.getElem?_take_of_lt hj] at e
   rw [zcd.eq_1,if_pos (by omega)]
   simp only [zao,hg,e,zmY,Option.bind_eq_bind,Option.bind_some]
   rw [if_neg (by rw [decide_eq_false hab];simp),w64 (by omega) (by omega)]
  ·intro j b _ hj e hab
   rw [hl] at hj
   rw [List.getElem?_take_of_lt hj] at e
   rw [zcd.eq_1,if_pos (by omega)]
   simp only [zao,hg,e,zmY,Option.bind_eq_bind,Option.bind_some]
   rw [if_pos (decide_eq_true (Classical.not_not.1 hab))]
  ·rw [hl,zcd.eq_1,if_neg (by omega)]
 have hh:=zdB xs (zdg xs) false (fun i a=>∀ j:Nat,j<i->xs[j]? ≠ some a) 0 (Nat.zero_le _) ?_ ?_ ?_
 ·rw [show ((0:Nat):Int)=0 from rfl] at hh
  rw [hh]
  have hiff:(∀ (i:Nat) a,0<=i->xs[i]? = some a->∀ j:Nat,j<i->xs[j]? ≠ some a) ↔ xs.Nodup:=by
   rw [zgB]
   constructor
   ·intro q i j hij hj e
    exact q j _ (Nat.zero_le _) (List.getElem?_eq_getElem hj) i hij (e.trans (List.getElem?_eq_getElem hj))
   ·intro q i a _ hg j hj e
    exact q j i hj (List.getElem?_eq_some_iff.1 hg).1 (e.trans hg.symm)
  by_cases hS:xs.Nodup
  ·rw [if_pos (hiff.2 hS),decide_eq_true hS];rfl
  ·rw [if_neg (fun e=>hS (hiff.1 e)),decide_eq_false hS];rfl
 ·intro i a _ hi hg hp
  rw [zdg.eq_1,if_pos (by omega),inner i a hg,if_pos hp]
  simp only [Option.bind_eq_bind,Option.bind_some]
  rw [w64 (by omega) (by omega)]
 ·intro i a _ hi hg hp
  rw [zdg.eq_1,if_pos (by omega),inner i a hg,if_neg hp]
  rfl
 ·rw [zdg.eq_1,if_neg (by omega)]
theorem zlS (xs:List TValue) (a:TValue) (h:xs.length<=1099511627776):zaH xs a=some (decide (a ∈ xs)):=by
 unfold zaH zbO
 have key:=zbD xs (fun i rest=>zan xs a xs.length (i:Int)=if a ∈ rest then some (.inr ((i + rest.findIdx (fun b=>decide (b=a)):Nat):Int)) else some (.inl ())) ?_ ?_
 ·rw [show ((0:Nat):Int)=0 from rfl] at key
  rw [key]
  by_cases hm:a ∈ xs
  ·rw [if_pos hm]
   simp only [Option.bind_eq_bind,Option.bind_some]
   refine congrArg some (decide_eq_decide.2 ?_)
   simp only [hm,iff_true]
   omega
  ·rw [if_neg hm]
   simp only [Option.bind_eq_bind,Option.bind_some]
   refine congrArg some (decide_eq_decide.2 ?_)
   simp only [hm,iff_false]
   omega
 ·rw [zan.eq_1,if_neg (by omega)]
  rw [if_neg (by simp)]
 ·intro i b rest hi hg hd ih
  have ih':zan xs a xs.length ((i:Int) + 1)=_:=ih
  rw [zan.eq_1,if_pos (by omega)]
  simp only [zao,hg,Option.bind_eq_bind,Option.bind_some]
  rw [w64 (by omega) (by omega),ih',List.findIdx_cons]
  have hba:(a.Kind=b.Kind∧a.Num=b.Num∧a.Text=b.Text∧a.Ref=b.Ref) ↔ a=b:=by
   have:=veq a b
   rw [<- dand,<- dand,<- dand] at this
   exact decide_eq_decide.1 this
  by_cases he:a=b
  ·subst he
   simp
  ·rw [decide_eq_false (fun e=>he e.symm)]
   have hne:¬ (a.Kind=b.Kind∧a.Num=b.Num∧a.Text=b.Text∧a.Ref=b.Ref):=fun e=>he (hba.1 e)
   have hm:(a ∈ b::rest) ↔ a ∈ rest:=by simp [he]
   have hr:(if a ∈ rest then (some (.inr ((i + 1 + rest.findIdx (fun b=>decide (b=a)):Nat):Int)):Option (Unit ⊕ Int)) else some (.inl ()))=if a ∈ b::rest then some (.inr ((i + (rest.findIdx (fun b=>decide (b=a)) + 1):Nat):Int)) else some (.inl ()):=by
    by_cases hq:a ∈ rest
    ·rw [if_pos hq,if_pos (hm.2 hq)]
     refine congrArg (fun z:Nat=>(some (.inr (z:Int)):Option (Unit ⊕ Int))) (by omega)
    ·rw [if_neg hq,if_neg (fun e=>hq (hm.1 e))]
   simp only [cond_false]
   rw [<- hr]
   by_cases h1:a.Kind=b.Kind
   ·rw [if_pos h1]
    by_cases h2:a.Num=b.Num
    ·rw [if_pos h2]
     by_cases h3:a.Text=b.Text
     ·rw [if_pos h3,if_neg (fun h4=>hne ⟨h1,h2,h3,h4⟩)]
     ·rw [if_neg h3]
    ·rw [if_neg h2]
   ·rw [if_neg h1]
theorem ztE (xs:List TValue) (h:xs.length<=1099511627776):zdb xs=some (decide xs.Nodup):=by
 unfold zdb
 have hh:=zdB xs (zcJ xs xs xs.length) false (fun i a=>a ∉ xs.take i) 0 (Nat.zero_le _) ?_ ?_ ?_
 ·rw [show ((0:Nat):Int)=0 from rfl] at hh
  rw [hh]
  have hiff:(∀ (i:Nat) a,0<=i->xs[i]? = some a->a ∉ xs.take i) ↔ xs.Nodup:=by
   rw [zgB]
   constructor
   ·intro q i j hij hj e
    have hg:=List.getElem?_eq_getElem hj
    refine q j _ (Nat.zero_le _) hg (List.mem_of_getElem? (i:=i) ?_)
    rw [List.getElem?_take_of_lt hij];exact e.trans hg
   ·intro q i a _ hg hm
    obtain ⟨j,hj,e⟩:=List.mem_iff_getElem.1 hm
    have hji:j<i:=by rw [List.length_take] at hj;omega
    refine q j i hji (List.getElem?_eq_some_iff.1 hg).1 ?_
    have:=List.getElem?_eq_getElem hj
    rw [List.getElem?_take_of_lt hji,e] at this
    rw [this,hg]
  by_cases hS:xs.Nodup
  ·rw [if_pos (hiff.2 hS),decide_eq_true hS];rfl
  ·rw [if_neg (fun e=>hS (hiff.1 e)),decide_eq_false hS];rfl
 all_goals
  try
   intro i a _ hi hg hp
   have hc:zaH (xs.take i) a=some (decide (a ∈ xs.take i)):=zlS _ _ (by rw [List.length_take];omega)
   have hsub:subH xs (i:Int)=some (xs.take i):=by unfold subH;rw [if_pos (by omega)];simp
   rw [zcJ.eq_1,if_pos (by omega)]
   simp only [zao,hg,hsub,hc,Option.bind_eq_bind,Option.bind_some]
 ·rw [if_neg (by rw [decide_eq_false hp];simp),w64 (by omega) (by omega)]
 ·rw [if_pos (decide_eq_true (Classical.not_not.1 hp))]
 ·rw [zcJ.eq_1,if_neg (by omega)]
theorem zmZ (xs:List TValue) (h:xs.length<=1099511627776):zda xs=some (xs.all vOK):=by
 unfold zda
 rw [zbu xs xs.length (zcI xs xs xs.length) zbe vOK (fun i=>zcI.eq_1 ..) rfl h (fun a _=>zcD a)]
 cases xs.all vOK <;> rfl
theorem zjS (xs:List TValue) (n:Int) (h:xs.length<=1099511627776):zbs xs n=some (decide ((xs.length:Int)<=n) && xs.all vOK):=by
 unfold zbs
 rw [zbu xs xs.length (zbU xs n) zbv vOK (fun i=>zbU.eq_1 ..) rfl h (fun a _=>zcC a)]
 by_cases hn:(xs.length:Int)<=n
 ·rw [if_neg (by omega),decide_eq_true hn,Bool.true_and]
  cases xs.all vOK <;> rfl
 ·rw [if_pos (by omega),decide_eq_false hn,Bool.false_and]
def ziw (v:TValue):Bool:=decide (v.Kind=1∧v.Num=0∧v.Ref=0) && zaI v.Text
theorem zna (v:TValue):zgG v=some (ziw v):=by
 unfold zgG ziW ziw
 simp only [zcb,Option.bind_eq_bind,Option.bind_some]
 by_cases h1:v.Kind=1 <;> by_cases h2:v.Num=0 <;> by_cases h3:v.Ref=0 <;> simp [h1,h2,h3]
theorem zqq (xs:List TValue) (h:xs.length<=1099511627776):zdj xs=some (xs.all ziw):=by
 unfold zdj
 rw [zbu xs xs.length (zbV xs xs xs.length) zgG ziw (fun i=>zbV.eq_1 ..) rfl h (fun a _=>zna a)]
 cases xs.all ziw <;> rfl
theorem zzH (v:TValue) (h:ziw v=true):vOK v=true:=by
 unfold ziw at h
 simp only [Bool.and_eq_true,decide_eq_true_eq] at h
 obtain ⟨⟨h1,h2,h3⟩,h4⟩:=h
 have hs:v.Text.size<=12:=by
  unfold zaI at h4
  split at h4
  ·cases h4
  ·rename_i c r e
   have:(strI v.Text).length=v.Text.size:=zhG _
   rw [e] at this
   simp only [Bool.and_eq_true,decide_eq_true_eq] at h4
   omega
 unfold vOK
 rw [if_pos h1]
 simp only [h2,h3,decide_true,Bool.true_and,decide_eq_true_eq]
 omega
def zgN (xs:List TValue):Prop:=1<=xs.length∧xs.length<=6∧(∀ v ∈ xs,ziw v=true)∧xs.Nodup
theorem zof (xs:List TValue) (h:xs.length<=1099511627776):zdF xs=some (decide (zgN xs)):=by
 unfold zdF
 have hh:=zdB xs (zcm xs) false (fun i a=>a.Kind=1∧zaI a.Text=true) 0 (Nat.zero_le _) ?_ ?_ ?_
 ·rw [show ((0:Nat):Int)=0 from rfl] at hh
  rw [hh,zjS xs 6 h,zhZ xs h]
  simp only [Option.bind_eq_bind,Option.bind_some]
  by_cases hA:∀ (i:Nat) a,0<=i->xs[i]? = some a->a.Kind=1∧zaI a.Text=true
  ·have hA':∀ v ∈ xs,v.Kind=1∧zaI v.Text=true:=fun v hv=>by
    obtain ⟨i,hi,e⟩:=List.mem_iff_getElem.1 hv
    exact hA i v (Nat.zero_le _) (by rw [List.getElem?_eq_getElem hi,e])
   rw [if_pos hA]
   simp only [Option.bind_some]
   by_cases h1:1<=xs.length
   ·rw [if_pos (show (xs.length:Int) ≥ 1 by omega)]
    by_cases h2:(decide ((xs.length:Int)<=6) && xs.all vOK)=true
    ·rw [if_pos h2]
     simp only [Bool.and_eq_true,decide_eq_true_eq,List.all_eq_true] at h2
     refine congrArg some (decide_eq_decide.2 ⟨fun q=>⟨h1,by omega,fun v hv=>?_,q⟩,fun q=>q.2.2.2⟩)
     have e1:=hA' v hv
     have e2:=h2.2 v hv
     unfold vOK at e2
     rw [if_pos e1.1] at e2
     simp only [Bool.and_eq_true,decide_eq_true_eq] at e2
     unfold ziw
     rw [decide_eq_true ⟨e1.1,e2.1.1,e2.1.2⟩,e1.2];rfl
    ·rw [if_neg h2]
     refine congrArg some (decide_eq_false (fun q:zgN xs=>h2 ?_)).symm
     simp only [Bool.and_eq_true,decide_eq_true_eq,List.all_eq_true]
     exact ⟨by have:=q.2.1;omega,fun v hv=>zzH v (q.2.2.1 v hv)⟩
   ·rw [if_neg (show ¬ (xs.length:Int) ≥ 1 by omega)]
    exact congrArg some (decide_eq_false (fun q:zgN xs=>h1 q.1)).symm
  ·rw [if_neg hA]
   refine congrArg some (decide_eq_false (fun q:zgN xs=>hA fun i a _ hg=>?_)).symm
   have:=q.2.2.1 a (zga hg)
   unfold ziw at this
   simp only [Bool.and_eq_true,decide_eq_true_eq] at this
   exact ⟨this.1.1,this.2⟩
 ·intro i a _ hi hg hp
  rw [zcm.eq_1,if_pos (by omega)]
  simp only [zao,hg,zbp,Option.bind_eq_bind,Option.bind_some]
  rw [if_pos hp.1,if_pos hp.2,w64 (by omega) (by omega)]
 ·intro i a _ hi hg hp
  rw [zcm.eq_1,if_pos (by omega)]
  simp only [zao,hg,zbp,Option.bind_eq_bind,Option.bind_some]
  by_cases h1:a.Kind=1
  ·rw [if_pos h1,if_neg (fun h2=>hp ⟨h1,h2⟩)]
  ·rw [if_neg h1]
 ·rw [zcm.eq_1,if_neg (by omega)]
end Go.Vx.WvZ

