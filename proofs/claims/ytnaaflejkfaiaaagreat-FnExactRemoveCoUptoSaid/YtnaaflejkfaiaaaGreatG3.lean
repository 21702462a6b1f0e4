/-
  Sizes of expressions: both sides count the same nodes.
-/
import Derived.Test.YtnaaflejkfaiaaaGreatG2
set_option linter.unusedVariables false
set_option linter.unusedSimpArgs false
namespace Go.Vx.RmZ
mutual
def gN:TGen->Nat
 | ⟨_,_,_,_,ks⟩=>1 + gNL ks
def gNL:List TGen->Nat
 | []=>0
 | x::r=>gN x + gNL r
end
mutual
noncomputable def gF:TGen->Bool
 | ⟨k,n,t,v,ks⟩=>zmc ⟨k,n,t,v,ks⟩ && gFL ks
noncomputable def gFL:List TGen->Bool
 | []=>true
 | x::r=>gF x && gFL r
end
theorem zze (x:TGen):gN x=1 + gNL x.Kids:=by cases x;simp only [gN]
theorem zzf (x:TGen):gF x=(zmc x && gFL x.Kids):=by cases x;simp only [gF]
theorem zyy (x:TGen):1<=gN x:=by rw [zze];omega
def GenP (x:TGen):Prop:=gF x=true∧gN x<=60
theorem zom (x:TGen) (hl:x.Kids.length<=1048576) (M:Int) (hM:M<=1099511627776)
  (hk:∀ y ∈ x.Kids,∃ v,zeY y=some v∧1<=v∧v + 60<=M∧(v<=60 ↔ GenP y)∧(v<=60->v=gN y)) (s:Int) (hs:1<=s∧s<=M) :
  ∃ v,zbA x s 0=some v∧1<=v∧v<=M∧(v<=60 ↔ s<=60∧gFL x.Kids=true∧s + gNL x.Kids<=60)∧(v<=60->v=s + gNL x.Kids):=by
 have key:=zdP x.Kids (fun i rest=>(∀ y ∈ rest,y ∈ x.Kids)->∀ s:Int,1<=s->s<=M->∃ v,zbA x s (i:Int)=some v∧1<=v∧v<=M∧(v<=60 ↔ s<=60∧gFL rest=true∧s + gNL rest<=60)∧(v<=60->v=s + gNL rest)) ?_ ?_
 ·exact key (fun y h=>h) s hs.1 hs.2
 ·intro _ s h1 h2
  refine ⟨s,?_,h1,h2,?_,?_⟩
  ·rw [zbA.eq_1,if_neg (by omega)]
  ·simp [gFL,gNL]
  ·simp only [gNL];omega
 ·intro i a rest hi hg hd ih hm s h1 h2
  rw [zbA.eq_1,if_pos (by omega)]
  by_cases h3:s<=60
  ·rw [if_pos h3,zeX.eq_1]
   obtain ⟨v,e1,e2,e3,e4,e5⟩:=hk a (hm a (List.mem_cons_self ..))
   simp only [zat,hg,e1,Option.bind_eq_bind,Option.bind_some]
   rw [w64 (n:=s + v) (by omega) (by omega),w64 (n:=(i:Int) + 1) (by omega) (by omega)]
   obtain ⟨u,f1,f2,f3,f4,f5⟩:=ih (fun y h=>hm y (List.mem_cons_of_mem _ h)) (s + v) (by omega) (by omega)
   rw [show ((i:Int) + 1)=((i + 1:Nat):Int) by omega]
   refine ⟨u,f1,f2,f3,?_,?_⟩
   ·rw [f4]
    simp only [gFL,gNL,Bool.and_eq_true]
    unfold GenP at e4
    have:=zyy a
    constructor
    ·rintro ⟨g1,g2,g3⟩
     have hv:v<=60:=by omega
     have:=e5 hv
     exact ⟨h3,⟨(e4.1 hv).1,g2⟩,by omega⟩
    ·rintro ⟨g1,⟨g2,g3⟩,g4⟩
     have hv:=e4.2 ⟨g2,by omega⟩
     have:=e5 hv
     exact ⟨by omega,g3,by omega⟩
   ·intro hu
    have:=f5 hu
    have h4:=f4.1 hu
    have:=e5 (by omega)
    simp only [gNL];omega
  ·rw [if_neg h3]
   exact ⟨s,rfl,h1,h2,by omega,by omega⟩
theorem ztK:∀ x:TGen,TGen.n x<=1048576->∃ v,zeY x=some v∧1<=v∧v<=61 * (1 + TGen.n x)∧(v<=60 ↔ GenP x)∧(v<=60->v=gN x):=by
 refine TGen.ind fun x ih h=>?_
 have hn:=TGen.n_eq x
 rw [zeY.eq_1,ztJ]
 simp only [Option.bind_eq_bind,Option.bind_some]
 unfold GenP
 rw [zzf,zze]
 cases hf:zmc x with
 | false=>exact ⟨61,rfl,by omega,by omega,by simp,by omega⟩
 | true =>
  rw [if_pos rfl]
  obtain ⟨v,e1,e2,e3,e4,e5⟩:=zom x (by omega) (61 * (1 + TGen.n x)) (by omega) (fun y hy=>by
   have hy2:=zeU TGen.n x.Kids hy
   obtain ⟨v,e1,e2,e3,e4⟩:=ih y hy (by omega)
   have:0<x.Kids.length:=List.length_pos_of_mem hy
   exact ⟨v,e1,e2,by omega,e4⟩) 1 (by omega)
  rw [e1]
  refine ⟨v,rfl,e2,e3,?_,fun q=>by have:=e5 q;omega⟩
  rw [e4,Bool.true_and]
  constructor
  ·rintro ⟨_,g1,g2⟩;exact ⟨g1,by omega⟩
  ·rintro ⟨g1,g2⟩;exact ⟨by omega,g1,by omega⟩
open Classical in
theorem zna (x:TGen) (h:TGen.n x<=1048576):zlN x=some (decide (GenP x)):=by
 obtain ⟨v,e1,_,_,e4,_⟩:=ztK x h
 unfold zlN
 rw [e1]
 exact congrArg some (decide_eq_decide.2 e4)
theorem znb (x:TGen) (hl:x.Kids.length<=1048576)
  (hk:∀ y ∈ x.Kids,∀ n:Int,0<=n->n<=60->∃ v,zeh y n=some v∧0<=v∧v<=61∧(v<=60 ↔ gF y=true∧n + gN y<=60)∧(v<=60->v=n + gN y)) (n:Int) (hs:0<=n∧n<=60) :
  ∃ v,zbk n x x.Kids x.Kids.length 0=some v∧0<=v∧v<=61∧(v<=60 ↔ gFL x.Kids=true∧n + gNL x.Kids<=60)∧(v<=60->v=n + gNL x.Kids):=by
 have key:=zdP x.Kids (fun i rest=>(∀ y ∈ rest,y ∈ x.Kids)->∀ n:Int,0<=n->n<=60->∃ v,zbk n x x.Kids x.Kids.length (i:Int)=some v∧0<=v∧v<=61∧(v<=60 ↔ gFL rest=true∧n + gNL rest<=60)∧(v<=60->v=n + gNL rest)) ?_ ?_
 ·exact key (fun y h=>h) n hs.1 hs.2
 ·intro _ n h1 h2
  refine ⟨n,?_,h1,by omega,?_,?_⟩
  ·rw [zbk.eq_1,if_neg (by omega)]
  ·simp [gFL,gNL]
  ·simp only [gNL];omega
 ·intro i a rest hi hg hd ih hm n h1 h2
  rw [zbk.eq_1,if_pos (by omega)]
  obtain ⟨v,e1,e2,e3,e4,e5⟩:=hk a (hm a (List.mem_cons_self ..)) n h1 h2
  simp only [zat,hg,e1,Option.bind_eq_bind,Option.bind_some]
  have:=zyy a
  by_cases h3:v > 60
  ·rw [if_pos h3]
   refine ⟨v,rfl,e2,e3,?_,by omega⟩
   simp only [gFL,gNL,Bool.and_eq_true]
   constructor
   ·omega
   ·rintro ⟨⟨g1,g2⟩,g3⟩;exact e4.2 ⟨g1,by omega⟩
  ·rw [if_neg h3,w64 (n:=(i:Int) + 1) (by omega) (by omega)]
   have hv:=e5 (by omega)
   obtain ⟨u,f1,f2,f3,f4,f5⟩:=ih (fun y h=>hm y (List.mem_cons_of_mem _ h)) v (by omega) (by omega)
   rw [show ((i:Int) + 1)=((i + 1:Nat):Int) by omega]
   refine ⟨u,f1,f2,f3,?_,?_⟩
   ·rw [f4]
    simp only [gFL,gNL,Bool.and_eq_true]
    constructor
    ·rintro ⟨g1,g2⟩;exact ⟨⟨(e4.1 (by omega)).1,g1⟩,by omega⟩
    ·rintro ⟨⟨g1,g2⟩,g3⟩;exact ⟨g2,by omega⟩
   ·intro hu;have:=f5 hu;simp only [gNL];omega
theorem zqe:∀ x:TGen,TGen.n x<=1048576->∀ n:Int,0<=n->n<=60->∃ v,zeh x n=some v∧0<=v∧v<=61∧(v<=60 ↔ gF x=true∧n + gN x<=60)∧(v<=60->v=n + gN x):=by
 refine TGen.ind fun x ih h n h1 h2=>?_
 have hn:=TGen.n_eq x
 rw [zeh.eq_1,ztI,w64 (n:=n + 1) (by omega) (by omega)]
 rw [zzf,zze]
 by_cases h3:n + 1 > 60
 ·rw [if_pos h3];exact ⟨61,rfl,by omega,by omega,by omega,by omega⟩
 ·rw [if_neg h3]
  simp only [Option.bind_eq_bind,Option.bind_some]
  cases hf:zmc x with
  | false=>exact ⟨61,rfl,by omega,by omega,by simp,by omega⟩
  | true =>
   rw [if_pos rfl,zez.eq_1]
   obtain ⟨v,e1,e2,e3,e4,e5⟩:=znb x (by omega) (fun y hy n h1 h2=>ih y hy (by have:=zeU TGen.n x.Kids hy;omega) n h1 h2) (n + 1) (by omega)
   rw [e1]
   refine ⟨v,rfl,e2,e3,?_,fun q=>by have:=e5 q;omega⟩
   rw [e4,Bool.true_and]
   constructor
   ·rintro ⟨g1,g2⟩;exact ⟨g1,by omega⟩
   ·rintro ⟨g1,g2⟩;exact ⟨g1,by omega⟩
open Classical in
theorem zpk (x:TGen) (h:TGen.n x<=1048576):zhB x=some (decide (GenP x)):=by
 obtain ⟨v,e1,_,_,e4,_⟩:=zqe x h 0 (by omega) (by omega)
 unfold zhB
 rw [e1]
 refine congrArg some (decide_eq_decide.2 (e4.trans ?_))
 unfold GenP
 constructor
 ·rintro ⟨g1,g2⟩;exact ⟨g1,by omega⟩
 ·rintro ⟨g1,g2⟩;exact ⟨g1,by omega⟩
end Go.Vx.RmZ

