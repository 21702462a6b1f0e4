/-
  The form of an expression's node: both sides ask the same.
-/
import Derived.Test.YtnaaflejkfaiaaaGreatP2
import Derived.Test.YtnaaflejkfaiaaaGreatG1
set_option linter.unusedVariables false
set_option linter.unusedSimpArgs false
namespace Go.Vx.RmZ
theorem opsL:zeO=some ([⟨#[97,100,100]⟩,⟨#[115,117,98]⟩,⟨#[109,117,108]⟩,⟨#[100,105,118]⟩,⟨#[99,97,116]⟩,⟨#[108,116]⟩,⟨#[108,101]⟩,⟨#[101,113]⟩,⟨#[110,101]⟩,⟨#[103,116]⟩,⟨#[103,101]⟩,⟨#[115,101,113]⟩,⟨#[115,110,101]⟩,⟨#[115,108,116]⟩,⟨#[105,115]⟩]):=rfl
theorem zuQ (l:List ByteArray) (t:ByteArray) (h:l.length<=1099511627776):∃ r,zeK l t=some r∧(r ≥ 0 ↔ t ∈ l):=by
 unfold zeK
 have key:=zdP l (fun i rest=>(t ∈ rest∧∃ j:Int,0<=j∧zeq l t (i:Int)=some (.inr j)) ∨ (t ∉ rest∧zeq l t (i:Int)=some (.inl ()))) ?_ ?_
 ·rcases key with ⟨h1,j,h2,h3⟩|⟨h1,h3⟩
  ·rw [show ((0:Nat):Int)=0 from rfl] at h3
   rw [h3];exact ⟨j,rfl,by simp [h1,h2]⟩
  ·rw [show ((0:Nat):Int)=0 from rfl] at h3
   rw [h3];exact ⟨-1,rfl,by simp [h1]⟩
 ·right
  rw [zeq.eq_1,if_neg (by omega)];simp
 ·intro i a rest hi hg hd ih
  rw [zeq.eq_1,if_pos (by omega)]
  simp only [zat,hg,Option.bind_eq_bind,Option.bind_some]
  rw [w64 (by omega) (by omega)]
  by_cases ha:a=t
  ·rw [if_pos ha];left;exact ⟨by rw [ha];exact List.mem_cons_self,i,by omega,rfl⟩
  ·rw [if_neg ha]
   rw [show ((i:Int) + 1)=((i + 1:Nat):Int) by omega]
   rcases ih with ⟨h1,h2⟩|⟨h1,h2⟩
   ·left;exact ⟨List.mem_cons_of_mem _ h1,h2⟩
   ·right;exact ⟨fun e=>by rcases List.mem_cons.1 e with e|e;exact ha e.symm;exact h1 e,h2⟩
theorem orI (p q:Prop) [Decidable p] [Decidable q]:(if p then some true else some (decide q))=some (decide (p ∨ q)):=by by_cases h:p <;> simp [h]
theorem orF (p:Prop) [Decidable p]:(if p then some true else some false)=some (decide p):=by by_cases h:p <;> simp [h]
theorem zBg (t:ByteArray):∃ b,zcM t=some b∧(zeO >>= fun l=>zeK l t >>= fun r=>some (decide (r ≥ 0)))=some b:=by
 rw [opsL]
 simp only [Option.bind_eq_bind,Option.bind_some]
 obtain ⟨r,h1,h2⟩:=zuQ [⟨#[97,100,100]⟩,⟨#[115,117,98]⟩,⟨#[109,117,108]⟩,⟨#[100,105,118]⟩,⟨#[99,97,116]⟩,⟨#[108,116]⟩,⟨#[108,101]⟩,⟨#[101,113]⟩,⟨#[110,101]⟩,⟨#[103,116]⟩,⟨#[103,101]⟩,⟨#[115,101,113]⟩,⟨#[115,110,101]⟩,⟨#[115,108,116]⟩,⟨#[105,115]⟩] t (by simp only [List.length_cons,List.length_nil];omega)
 rw [h1]
 refine ⟨_,?_,rfl⟩
 unfold zcM
 simp only [orF,orI]
 refine congrArg some (decide_eq_decide.2 ?_)
 rw [h2]
 simp only [List.mem_cons,List.not_mem_nil,or_false]
theorem ztE (k:Int) (h:1<=k∧k<=18):zfE k=zgq k:=by
 have:k=1 ∨ k=2 ∨ k=3 ∨ k=4 ∨ k=5 ∨ k=6 ∨ k=7 ∨ k=8 ∨ k=9 ∨ k=10 ∨ k=11 ∨ k=12 ∨ k=13 ∨ k=14 ∨ k=15 ∨ k=16 ∨ k=17 ∨ k=18:=by omega
 rcases this with rfl|rfl|rfl|rfl|rfl|rfl|rfl|rfl|rfl|rfl|rfl|rfl|rfl|rfl|rfl|rfl|rfl|rfl <;> rfl
theorem zkq (k:Int) (h:1<=k∧k<=18):∃ n,zgq k=some n:=by
 have:k=1 ∨ k=2 ∨ k=3 ∨ k=4 ∨ k=5 ∨ k=6 ∨ k=7 ∨ k=8 ∨ k=9 ∨ k=10 ∨ k=11 ∨ k=12 ∨ k=13 ∨ k=14 ∨ k=15 ∨ k=16 ∨ k=17 ∨ k=18:=by omega
 rcases this with rfl|rfl|rfl|rfl|rfl|rfl|rfl|rfl|rfl|rfl|rfl|rfl|rfl|rfl|rfl|rfl|rfl|rfl <;> exact ⟨_,rfl⟩
def dOK (v:TValue):Bool:=vOK v && (decide (v.Kind=1) || decide (v.Kind=2) || decide (4<=v.Kind∧v.Kind<=6))
theorem zuR (v:TValue):zeI v=some (decide (4<=v.Kind∧v.Kind<=6)):=by simp only [zeI,zcI];rfl
theorem ztF (k:Int):zhA k=some (decide (4<=k∧k<=6)):=by simp only [zhA,zbd];rfl
theorem ztG (v:TValue):zjH v=some (dOK v):=by
 unfold zjH dOK
 rw [zdo,ztF]
 simp only [Option.bind_eq_bind,Option.bind_some]
 cases vOK v with
 | false=>rfl
 | true=>by_cases h1:v.Kind=1 <;> by_cases h2:v.Kind=2 <;> simp [h1,h2]
theorem ztH (v:TValue):(zbT v >>= fun r71=>if r71=true then (if v.Kind=1 then some true else if v.Kind=2 then some true else zeI v >>= fun r85=>some r85) else some false)=some (dOK v):=by
 unfold dOK
 rw [zeF,zuR]
 simp only [Option.bind_eq_bind,Option.bind_some]
 cases vOK v with
 | false=>rfl
 | true=>by_cases h1:v.Kind=1 <;> by_cases h2:v.Kind=2 <;> simp [h1,h2]
def zB (v:TValue):Bool:=decide (v.Kind=0) && (decide (v.Num=0) && (decide (v.Text=ByteArray.empty) && decide (v.Ref=0)))
theorem zIf (v:TValue) (X:Option Bool):(if v.Kind=0 then if v.Num=0 then if v.Text=ByteArray.empty then if v.Ref=0 then X else some false else some false else some false else some false)=if zB v=true then X else some false:=by
 unfold zB
 by_cases h1:v.Kind=0 <;> by_cases h2:v.Num=0 <;> by_cases h3:v.Text=ByteArray.empty <;> by_cases h4:v.Ref=0 <;> simp [h1,h2,h3,h4]
noncomputable def tB (k:Int) (t:ByteArray):Bool:=if k=2 ∨ k=16 ∨ k=17 then zdn t else if k=11 then (zcM t).getD false else decide (t=⟨#[]⟩)
noncomputable def zmc (x:TGen):Bool:=decide (1<=x.Kind∧x.Kind<=18) && decide ((x.Kids.length:Int)=(zgq x.Kind).getD 0) && (if x.Kind=6 then decide (0<=x.Num∧x.Num<=60) else decide (x.Num=0)) && (if x.Kind=1 then dOK x.Value else zB x.Value) && (tB x.Kind x.Text)
theorem ztI (x:TGen):zfo x=some (zmc x):=by
 obtain ⟨k,n,t,v,ks⟩:=x
 obtain ⟨b,h1,h2⟩:=zBg t
 unfold zmc tB
 rw [h1]
 simp only [zfo,zcN,zbQ,zbd,ztG,zfJ,h1,Option.bind_eq_bind,Option.bind_some,show ((decide (v.Kind=0)) && ((decide (v.Num=0)) && ((decide (v.Text=ByteArray.empty)) && (decide (v.Ref=0)))))=zB v from rfl]
 by_cases hk:1<=k∧k<=18
 ·obtain ⟨g,hg⟩:=zkq k hk
  simp only [decide_eq_true hk,hg,if_true,Bool.true_and,Option.bind_some,Option.getD_some]
  generalize decide ((ks.length:Int)=g)=q0
  generalize dOK v=q1
  generalize zB v=q4
  generalize zdn t=q2
  generalize decide (0<=n∧n<=60)=q3
  generalize decide (n=0)=q5
  generalize decide (t=⟨#[]⟩)=q6
  by_cases c1:k=1
  ·simp only [c1];cases q0 <;> cases q1 <;> cases q5 <;> cases q6 <;> rfl
  by_cases c2:k=2
  ·simp only [c2];cases q0 <;> cases q4 <;> cases q5 <;> cases q2 <;> rfl
  by_cases c3:k=16
  ·simp only [c3];cases q0 <;> cases q4 <;> cases q5 <;> cases q2 <;> rfl
  by_cases c4:k=17
  ·simp only [c4];cases q0 <;> cases q4 <;> cases q5 <;> cases q2 <;> rfl
  by_cases c5:k=6
  ·simp only [c5];cases q0 <;> cases q4 <;> cases q3 <;> cases q6 <;> rfl
  by_cases c6:k=11
  ·simp only [c6];cases q0 <;> cases q4 <;> cases q5 <;> cases b <;> rfl
  simp only [c1,c2,c3,c4,c5,c6,if_false,false_or,decide_false,Bool.false_eq_true,Option.bind_some]
  cases q0 <;> cases q4 <;> cases q5 <;> cases q6 <;> rfl
 ·rw [decide_eq_false hk]
  simp only [Bool.false_and,Bool.false_eq_true,if_false]
  by_cases c1:k=1
  ·omega
  by_cases c2:k=2
  ·omega
  by_cases c3:k=16
  ·omega
  simp only [c1,c2,c3,if_false]
  split <;> first|rfl|(split <;> first|rfl|(split <;> rfl))
theorem ztJ (x:TGen):zgm x=some (zmc x):=by
 obtain ⟨k,n,t,v,ks⟩:=x
 obtain ⟨b,h1,h2⟩:=zBg t
 have hd:=ztH v
 unfold zmc tB
 rw [h1]
 by_cases hk:1<=k∧k<=18
 ·obtain ⟨g,hg⟩:=zkq k hk
  have hs:=ztE k hk
  rw [hg] at hs
  simp only [Option.bind_eq_bind] at h2 hd
  simp only [zgm,zgA,zdr,zes,zer,zcI,decide_eq_true hk,hg,hs,zea,zIf,Option.bind_eq_bind,Option.bind_some,if_true,Bool.true_and,Option.getD_some,hd]
  by_cases c0:(ks.length:Int)=g
  ·simp only [c0,if_true,decide_true,Bool.true_and]
   have h2':(zeO.bind fun r99=>(zeK r99 t).bind fun r104=>some (Sum.inr (α:=Bool) (decide (r104 ≥ 0))))=some (.inr b):=by
    rw [opsL] at h2 ⊢
    simp only [Option.bind_some] at h2 ⊢
    cases hq:zeK [⟨#[97,100,100]⟩,⟨#[115,117,98]⟩,⟨#[109,117,108]⟩,⟨#[100,105,118]⟩,⟨#[99,97,116]⟩,⟨#[108,116]⟩,⟨#[108,101]⟩,⟨#[101,113]⟩,⟨#[110,101]⟩,⟨#[103,116]⟩,⟨#[103,101]⟩,⟨#[115,101,113]⟩,⟨#[115,110,101]⟩,⟨#[115,108,116]⟩,⟨#[105,115]⟩] t with
    | none=>rw [hq] at h2;cases h2
    | some r=>rw [hq] at h2;simp only [Option.bind_some] at h2 ⊢;cases h2;rfl
   simp only [h2']
   generalize dOK v=q1
   generalize zB v=q4
   generalize zdn t=q2
   generalize decide (0<=n∧n<=60)=q3
   by_cases c5:n=0 <;> by_cases c6:t=⟨#[]⟩ <;> simp only [c5,c6,if_true,if_false,decide_true,decide_false]
   all_goals
    by_cases c1:k=1
    ·simp only [c1];cases q1 <;> rfl
    by_cases c2:k=2
    ·simp only [c2];cases q4 <;> cases q2 <;> rfl
    by_cases c3:k=16
    ·simp only [c3];cases q4 <;> cases q2 <;> rfl
    by_cases c4:k=17
    ·simp only [c4];cases q4 <;> cases q2 <;> rfl
    by_cases c7:k=6
    ·simp only [c7];cases q4 <;> cases q3 <;> rfl
    by_cases c8:k=11
    ·simp only [c8];cases q4 <;> cases b <;> rfl
    simp only [c1,c2,c3,c4,c7,c8,if_false,false_or,decide_false,Bool.false_eq_true,Option.bind_some]
    cases q4 <;> rfl
  ·rw [if_neg c0,decide_eq_false c0];rfl
 ·unfold zgm;rw [zcI,decide_eq_false hk];rfl
end Go.Vx.RmZ

