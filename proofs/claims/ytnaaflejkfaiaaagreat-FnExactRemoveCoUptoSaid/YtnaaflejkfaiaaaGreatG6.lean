/-
  Suspended cursors, the other kinds; variables of a scope.
-/
import Derived.Test.YtnaaflejkfaiaaaGreatG5
import Derived.Test.YtnaaflejkfaiaaaGreatGs
set_option linter.unusedVariables false
set_option linter.unusedSimpArgs false
namespace Go.Vx.RmZ
open Classical
theorem ztT (h:THeap) (x:TGen) (c:TCursor) (n:Int) (hn:zfE x.Kind=some n) (hl:(x.Kids.length:Int)=n) (hk:1<=x.Kind∧x.Kind<=18) (h1:x.Kind ≠ 1) (h2:x.Kind ≠ 2) (h3:x.Kind ≠ 3) (h4:x.Kind ≠ 4) (h7:x.Kind ≠ 7) (h8:x.Kind ≠ 8) (h9:x.Kind ≠ 9) :
  ∃ cb m cnt,zbI x c=some cb∧zde x=some m∧zag h x c=zaD h c (TcursorForm.mk [1] cnt m x.Kids) cb:=by
 have hkk:x.Kind=5 ∨ x.Kind=6 ∨ x.Kind=10 ∨ x.Kind=11 ∨ x.Kind=12 ∨ x.Kind=13 ∨ x.Kind=14 ∨ x.Kind=15 ∨ x.Kind=16 ∨ x.Kind=17 ∨ x.Kind=18:=by omega
 have ob:∀ o:Option Bool,(o.bind fun t=>some t)=o:=obs'
 subst hl
 rcases hkk with hk|hk|hk|hk|hk|hk|hk|hk|hk|hk|hk <;> (
  rw [hk] at hn
  simp only [zbI,zde,hk,hn,zcI,seval,if_true,if_false,Option.bind_eq_bind,Option.bind_some,Option.some.injEq]
  rw [zag.eq_1]
  simp only [zci,zbX,zbW,zfp,zfq,zcS,hk,zbd,seval,if_true,if_false,decide_true,decide_false,Option.bind_eq_bind,Option.bind_some,Bool.false_eq_true]
  first
   | exact ⟨_,_,_,rfl,rfl,rfl⟩
   | (have hn':(x.Kids.length:Int)=3:=(Option.some.inj hn).symm;rw [hn'];exact ⟨_,_,_,rfl,rfl,rfl⟩)
   | (have hn':(x.Kids.length:Int)=1:=(Option.some.inj hn).symm;rw [hn'];exact ⟨_,_,_,rfl,rfl,rfl⟩))
theorem zBU (h:THeap) (hl:h.Objects.length<=1048576) (hS:SrtI TObject.Id h.Objects) (x:TGen) (c:TCursor) (hv:c.Vals.length<=1048576) (hkl:x.Kids.length<=1048576) (n:Int) (hn:zfE x.Kind=some n) (hnl:(x.Kids.length:Int)=n) (hk:1<=x.Kind∧x.Kind<=18) (h1:x.Kind ≠ 1) (h2:x.Kind ≠ 2) (h3:x.Kind ≠ 3) (h4:x.Kind ≠ 4) (h7:x.Kind ≠ 7) (h8:x.Kind ≠ 8) (h9:x.Kind ≠ 9)
  (hq:∀ y ∈ x.Kids,∀ d ∈ c.Kids,∃ b,zak h y d=some b∧zag h y d=some b) :
  ∃ b,zak h x c=some b∧zag h x c=some b:=by
 obtain ⟨cb,m,cnt,e1,e2,e3⟩:=ztT h x c n hn hnl hk h1 h2 h3 h4 h7 h8 h9
 rw [zuV h hl x c hv e1 e2,e3,zzl h hl hS c hv _ (by simp)]
 have hm:decide (c.Phase ∈ [(1:Int)])=decide (c.Phase=1):=by simp
 have hj:zau h x c=if c.Phase=1 then (if (c.Kids.length:Int)=(x.Kids.length:Int) then zbF h x c else some false) else some false:=by
  simp only [zau.eq_1,zbD.eq_1,zbf.eq_1,zbE.eq_1,h1,h2,h3,h4,h7,h8,h9,if_false,decide_false,Bool.false_eq_true,Option.bind_eq_bind,Option.bind_some,obs']
 simp only [hm]
 rw [hj]
 by_cases hp:c.Phase=1
 ·rw [if_pos hp,decide_eq_true hp]
  by_cases hlen:(c.Kids.length:Int)=(x.Kids.length:Int)
  ·rw [if_pos hlen,decide_eq_true hlen]
   obtain ⟨b,f1,f2⟩:=zuU h x c (TcursorForm.mk [1] cnt m x.Kids) (by omega) hkl hq
   rw [zbF.eq_1,zaM.eq_1,f1,f2]
   cases b <;> cases cb <;> cases decide ((c.Vals.length:Int)=m) <;> cases decide (∀ v ∈ c.Vals,FitP h.Objects v) <;> exact ⟨_,rfl,rfl⟩
  ·rw [if_neg hlen,decide_eq_false hlen]
   refine ⟨false,by split <;> rfl,by simp⟩
 ·rw [if_neg hp,decide_eq_false hp]
  refine ⟨false,by split <;> rfl,by simp⟩
theorem zBn (h:THeap) (hl:h.Objects.length<=1048576) (hS:SrtI TObject.Id h.Objects):∀ x:TGen,TGen.n x<=1048576->gF x=true->∀ c:TCursor,TCursor.n c<=1048576->∃ b,zak h x c=some b∧zag h x c=some b:=by
 refine TGen.ind fun x ih hx hf c hc=>?_
 have hn:=TGen.n_eq x
 have hcn:=TCursor.n_eq c
 obtain ⟨hk,⟨n,hn1,hn2,hn3⟩,hm⟩:=zuW hf
 have hq:∀ y ∈ x.Kids,∀ d ∈ c.Kids,∃ b,zak h y d=some b∧zag h y d=some b:=by
  intro y hy d hd
  have q1:=zeU TGen.n x.Kids hy
  have q2:=zeU TCursor.n c.Kids hd
  exact ih y hy (by omega) (hm y hy) d (by omega)
 have hv:c.Vals.length<=1048576:=by omega
 by_cases hA:x.Kind=1 ∨ x.Kind=2 ∨ x.Kind=7
 ·exact zBS h hl hS x c hv hA
 by_cases hB:x.Kind=3 ∨ x.Kind=9
 ·exact ⟨false,zBT h hl hS x c hv hB⟩
 by_cases h4:x.Kind=4
 ·refine zBm h hl hS x c hv 1 (.inl ⟨h4,rfl,?_⟩) hq
  rw [h4] at hn1;cases hn1;omega
 by_cases h8:x.Kind=8
 ·refine zBm h hl hS x c hv 2 (.inr ⟨h8,rfl,?_⟩) hq
  rw [h8] at hn1;cases hn1;omega
 exact zBU h hl hS x c hv (by omega) n hn2 hn3 hk (by omega) (by omega) (by omega) h4 (by omega) h8 (by omega) hq
def VarP (os:List TObject) (b:TBinding):Prop:=zdn b.Name=true∧FitP os b.Value∧zmb b.Value=false
def zjx (os:List TObject) (l:List TBinding):Prop:=l.length<=40∧Srt TBinding.Name l∧∀ b ∈ l,VarP os b
theorem zku (h:THeap) (hl:h.Objects.length<=1048576) (l:List TBinding) (hv:l.length<=1048576):zgl h l=some (decide (zjx h.Objects l)):=by
 unfold zgl
 by_cases hn:l.length<=40
 ·rw [if_neg (by omega)]
  have hh:=zdE l (zeW h l) false (fun i a=>VarP h.Objects a∧(0<i->∀ c,l[i - 1]? = some c->ltB c.Name a.Name=true)) 0 (Nat.zero_le _) ?_ ?_ ?_
  ·rw [show ((0:Nat):Int)=0 from rfl] at hh
   rw [hh]
   have hiff:=zzc TBinding.Name (VarP h.Objects) l
   by_cases hS:(∀ a ∈ l,VarP h.Objects a)∧Srt TBinding.Name l
   ·rw [if_pos (hiff.2 hS)]
    exact congrArg some (decide_eq_true (show zjx h.Objects l from ⟨hn,hS.2,hS.1⟩)).symm
   ·rw [if_neg (fun q=>hS (hiff.1 q))]
    exact congrArg some (decide_eq_false (fun q:zjx h.Objects l=>hS ⟨q.2.2,q.2.1⟩)).symm
  ·intro i a _ hi hg hp
   obtain ⟨⟨q1,q2,q3⟩,q4⟩:=hp
   rw [zeW.eq_1,if_pos (by omega)]
   simp only [zat,hg,zea,q1,zhl _ _ hl,decide_eq_true q2,zkp,q3,Option.bind_eq_bind,Option.bind_some,if_true,Bool.false_eq_true,if_false]
   by_cases h0:0<i
   ·have hg1:=List.getElem?_eq_getElem (show i - 1<l.length by omega)
    have hlt:Op.bytesLess (l[i - 1]).Name.toList a.Name.toList=true:=q4 h0 _ hg1
    rw [if_pos (by omega),w64 (n:=(i:Int) - 1) (by omega) (by omega),show ((i:Int) - 1)=((i - 1:Nat):Int) by omega,zat,hg1]
    simp only [Option.bind_some]
    rw [if_pos hlt,w64 (by omega) (by omega)]
   ·rw [if_neg (by omega),w64 (by omega) (by omega)]
  ·intro i a _ hi hg hp
   rw [zeW.eq_1,if_pos (by omega)]
   simp only [zat,hg,zea,zhl _ _ hl,zkp,Option.bind_eq_bind,Option.bind_some]
   by_cases q1:zdn a.Name=true
   ·rw [if_pos q1]
    have tail:¬ (FitP h.Objects a.Value∧zmb a.Value=false)->∀ X:Option (Unit ⊕ Bool),(if decide (FitP h.Objects a.Value)=true then (if zmb a.Value=true then some (.inr false) else X) else some (.inr false))=some (.inr false):=by
     intro hq X
     by_cases q2:FitP h.Objects a.Value
     ·rw [if_pos (decide_eq_true q2)]
      cases hz:zmb a.Value with
      | true=>rfl
      | false=>exact absurd ⟨q2,hz⟩ hq
     ·rw [if_neg (by rw [decide_eq_false q2];simp)]
    by_cases h0:0<i
    ·have hg1:=List.getElem?_eq_getElem (show i - 1<l.length by omega)
     rw [if_pos (by omega),w64 (n:=(i:Int) - 1) (by omega) (by omega),show ((i:Int) - 1)=((i - 1:Nat):Int) by omega,zat,hg1]
     simp only [Option.bind_some]
     by_cases hlt:Op.bytesLess (l[i - 1]).Name.toList a.Name.toList=true
     ·rw [if_pos hlt]
      refine tail (fun q=>hp ⟨⟨q1,q.1,q.2⟩,fun _ c hc=>?_⟩) _
      rw [hg1] at hc;cases hc;exact hlt
     ·rw [if_neg hlt]
    ·rw [if_neg (by omega)]
     exact tail (fun q=>hp ⟨⟨q1,q.1,q.2⟩,fun e=>absurd e h0⟩) _
   ·rw [if_neg q1]
  ·rw [zeW.eq_1,if_neg (by omega)]
 ·rw [if_pos (by omega)]
  exact congrArg some (decide_eq_false (fun q:zjx h.Objects l=>hn q.1)).symm
theorem zkv (h:THeap) (hl:h.Objects.length<=1048576) (hS:SrtI TObject.Id h.Objects) (l:List TBinding) (hv:l.length<=1048576):zgp l h=some (decide (zjx h.Objects l)):=by
 unfold zgp
 by_cases hn:l.length<=40
 ·rw [if_pos (by omega),zqd l hv]
  simp only [Option.bind_eq_bind,Option.bind_some]
  by_cases hs:Srt TBinding.Name l
  ·rw [if_pos (decide_eq_true hs)]
   unfold zfh
   rw [zdQ l l.length (zcv l l l.length h) (fun b=>zgG b h) (fun b=>decide (VarP h.Objects b)) (fun i=>zcv.eq_1 ..) rfl (by omega) (fun b _=>?_),zkg]
   ·by_cases hA:∀ b ∈ l,VarP h.Objects b
    ·rw [decide_eq_true hA,decide_eq_true (show zjx h.Objects l from ⟨hn,hs,hA⟩)];rfl
    ·rw [decide_eq_false hA,decide_eq_false (fun q:zjx h.Objects l=>hA q.2.2)];rfl
   ·unfold zgG
    rw [ztA,zkt h _ hl hS]
    simp only [Option.bind_eq_bind,Option.bind_some]
    by_cases q1:ztz b
    ·rw [if_pos (decide_eq_true q1)]
     exact congrArg some (decide_eq_decide.2 ⟨fun q=>⟨q1.1,q,q1.2.2⟩,fun q=>q.2.1⟩)
    ·rw [if_neg (by rw [decide_eq_false q1];simp)]
     exact congrArg some (decide_eq_false (fun q:VarP h.Objects b=>q1 ⟨q.1,q.2.1.1,q.2.2⟩)).symm
  ·rw [if_neg (by rw [decide_eq_false hs];simp)]
   exact congrArg some (decide_eq_false (fun q:zjx h.Objects l=>hs q.2.1)).symm
 ·rw [if_neg (by omega)]
  exact congrArg some (decide_eq_false (fun q:zjx h.Objects l=>hn q.1)).symm
end Go.Vx.RmZ

