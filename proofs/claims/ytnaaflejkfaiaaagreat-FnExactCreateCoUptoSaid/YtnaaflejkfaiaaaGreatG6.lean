/-
  Suspended cursors, the other kinds; variables of a scope.
-/
import Derived.Test.YtnaaflejkfaiaaaGreatG5
import Derived.Test.YtnaaflejkfaiaaaGreatGs
set_option linter.unusedVariables false
set_option linter.unusedSimpArgs false
namespace Go.Vx.CrZ
set_option linter.unusedVariables false
set_option linter.unusedSimpArgs false
open Classical
theorem ztc (h:THeap) (x:TGen) (c:TCursor) (n:Int) (hn:zfz x.Kind=some n) (hl:(x.Kids.length:Int)=n) (hk:1≤x.Kind∧x.Kind≤18) (h1:x.Kind ≠ 1) (h2:x.Kind ≠ 2) (h3:x.Kind ≠ 3) (h4:x.Kind ≠ 4) (h7:x.Kind ≠ 7) (h8:x.Kind ≠ 8) (h9:x.Kind ≠ 9) :
  ∃ cb m cnt,zbG x c=some cb∧zdf x=some m∧zag h x c=zax h c (TcursorForm.mk [1] cnt m x.Kids) cb:=by
 have hkk:x.Kind=5 ∨ x.Kind=6 ∨ x.Kind=10 ∨ x.Kind=11 ∨ x.Kind=12 ∨ x.Kind=13 ∨ x.Kind=14 ∨ x.Kind=15 ∨ x.Kind=16 ∨ x.Kind=17 ∨ x.Kind=18:=by omega
 have ob:∀ o:Option Bool,(o.bind fun t=>some t)=o:=obs'
 subst hl
 rcases hkk with hk|hk|hk|hk|hk|hk|hk|hk|hk|hk|hk <;> (
  rw [hk] at hn
  simp only [zbG,zdf,hk,hn,zcJ,seval,if_true,if_false,Option.bind_eq_bind,Option.bind_some,Option.some.injEq]
  rw [zag.eq_1]
  simp only [zcj,zbY,zbX,zfk,zfl,zcS,hk,zaZ,seval,if_true,if_false,decide_true,decide_false,Option.bind_eq_bind,Option.bind_some,Bool.false_eq_true]
  first
   | exact ⟨_,_,_,rfl,rfl,rfl⟩
   | (have hn':(x.Kids.length:Int)=3:=(Option.some.inj hn).symm;rw [hn'];exact ⟨_,_,_,rfl,rfl,rfl⟩)
   | (have hn':(x.Kids.length:Int)=1:=(Option.some.inj hn).symm;rw [hn'];exact ⟨_,_,_,rfl,rfl,rfl⟩))
theorem zAP (h:THeap) (hl:h.Objects.length≤1048576) (hS:SrtI TObject.Id h.Objects) (x:TGen) (c:TCursor) (hv:c.Vals.length≤1048576) (hkl:x.Kids.length≤1048576) (n:Int) (hn:zfz x.Kind=some n) (hnl:(x.Kids.length:Int)=n) (hk:1≤x.Kind∧x.Kind≤18) (h1:x.Kind ≠ 1) (h2:x.Kind ≠ 2) (h3:x.Kind ≠ 3) (h4:x.Kind ≠ 4) (h7:x.Kind ≠ 7) (h8:x.Kind ≠ 8) (h9:x.Kind ≠ 9)
  (hq:∀ y ∈ x.Kids,∀ d ∈ c.Kids,∃ b,zaj h y d=some b∧zag h y d=some b) :
  ∃ b,zaj h x c=some b∧zag h x c=some b:=by
 obtain ⟨cb,m,cnt,e1,e2,e3⟩:=ztc h x c n hn hnl hk h1 h2 h3 h4 h7 h8 h9
 rw [ztW h hl x c hv e1 e2,e3,zyk h hl hS c hv _ (by simp)]
 have hm:decide (c.Phase ∈ [(1:Int)])=decide (c.Phase=1):=by simp
 have hj:zas h x c=if c.Phase=1 then (if (c.Kids.length:Int)=(x.Kids.length:Int) then zbD h x c else some false) else some false:=by
  simp only [zas.eq_1,zbB.eq_1,zbb.eq_1,zbC.eq_1,h1,h2,h3,h4,h7,h8,h9,if_false,decide_false,Bool.false_eq_true,Option.bind_eq_bind,Option.bind_some,obs']
 simp only [hm]
 rw [hj]
 by_cases hp:c.Phase=1
 ·rw [if_pos hp,decide_eq_true hp]
  by_cases hlen:(c.Kids.length:Int)=(x.Kids.length:Int)
  ·rw [if_pos hlen,decide_eq_true hlen]
   obtain ⟨b,f1,f2⟩:=ztV h x c (TcursorForm.mk [1] cnt m x.Kids) (by omega) hkl hq
   rw [zbD.eq_1,zaG.eq_1,f1,f2]
   cases b <;> cases cb <;> cases decide ((c.Vals.length:Int)=m) <;> cases decide (∀ v ∈ c.Vals,FitP h.Objects v) <;> exact ⟨_,rfl,rfl⟩
  ·rw [if_neg hlen,decide_eq_false hlen]
   refine ⟨false,by split <;> rfl,by simp⟩
 ·rw [if_neg hp,decide_eq_false hp]
  refine ⟨false,by split <;> rfl,by simp⟩
theorem zAk (h:THeap) (hl:h.Objects.length≤1048576) (hS:SrtI TObject.Id h.Objects):∀ x:TGen,TGen.n x≤1048576→gF x=true→∀ c:TCursor,TCursor.n c≤1048576→∃ b,zaj h x c=some b∧zag h x c=some b:=by
 refine TGen.ind fun x ih hx hf c hc=>?_
 have hn:=TGen.n_eq x
 have hcn:=TCursor.n_eq c
 obtain ⟨hk,⟨n,hn1,hn2,hn3⟩,hm⟩:=ztX hf
 have hq:∀ y ∈ x.Kids,∀ d ∈ c.Kids,∃ b,zaj h y d=some b∧zag h y d=some b:=by
  intro y hy d hd
  have q1:=zeR TGen.n x.Kids hy
  have q2:=zeR TCursor.n c.Kids hd
  exact ih y hy (by omega) (hm y hy) d (by omega)
 have hv:c.Vals.length≤1048576:=by omega
 by_cases hA:x.Kind=1 ∨ x.Kind=2 ∨ x.Kind=7
 ·exact zAN h hl hS x c hv hA
 by_cases hB:x.Kind=3 ∨ x.Kind=9
 ·exact ⟨false,zAO h hl hS x c hv hB⟩
 by_cases h4:x.Kind=4
 ·refine zAj h hl hS x c hv 1 (.inl ⟨h4,rfl,?_⟩) hq
  rw [h4] at hn1;cases hn1;omega
 by_cases h8:x.Kind=8
 ·refine zAj h hl hS x c hv 2 (.inr ⟨h8,rfl,?_⟩) hq
  rw [h8] at hn1;cases hn1;omega
 exact zAP h hl hS x c hv (by omega) n hn2 hn3 hk (by omega) (by omega) (by omega) h4 (by omega) h8 (by omega) hq
def VarP (os:List TObject) (b:TBinding):Prop:=zdl b.Name=true∧FitP os b.Value∧zlD b.Value=false
def zji (os:List TObject) (l:List TBinding):Prop:=l.length≤40∧Srt TBinding.Name l∧∀ b ∈ l,VarP os b
theorem zkg (h:THeap) (hl:h.Objects.length≤1048576) (l:List TBinding) (hv:l.length≤1048576):zge h l=some (decide (zji h.Objects l)):=by
 unfold zge
 by_cases hn:l.length≤40
 ·rw [if_neg (by omega)]
  have hh:=zdA l (zeT h l) false (fun i a=>VarP h.Objects a∧(0<i→∀ c,l[i - 1]? = some c→ltB c.Name a.Name=true)) 0 (Nat.zero_le _) ?_ ?_ ?_
  ·rw [show ((0:Nat):Int)=0 from rfl] at hh
   rw [hh]
   have hiff:=zyd TBinding.Name (VarP h.Objects) l
   by_cases hS:(∀ a ∈ l,VarP h.Objects a)∧Srt TBinding.Name l
   ·rw [if_pos (hiff.2 hS)]
    exact congrArg some (decide_eq_true (show zji h.Objects l from ⟨hn,hS.2,hS.1⟩)).symm
   ·rw [if_neg (fun q=>hS (hiff.1 q))]
    exact congrArg some (decide_eq_false (fun q:zji h.Objects l=>hS ⟨q.2.2,q.2.1⟩)).symm
  ·intro i a _ hi hg hp
   obtain ⟨⟨q1,q2,q3⟩,q4⟩:=hp
   rw [zeT.eq_1,if_pos (by omega)]
   simp only [zar,hg,zdV,q1,zhh _ _ hl,decide_eq_true q2,zka,q3,Option.bind_eq_bind,Option.bind_some,if_true,Bool.false_eq_true,if_false]
   by_cases h0:0<i
   ·have hg1:=List.getElem?_eq_getElem (show i - 1<l.length by omega)
    have hlt:Op.bytesLess (l[i - 1]).Name.toList a.Name.toList=true:=q4 h0 _ hg1
    rw [if_pos (by omega),w64 (n:=(i:Int) - 1) (by omega) (by omega),show ((i:Int) - 1)=((i - 1:Nat):Int) by omega,zar,hg1]
    simp only [Option.bind_some]
    rw [if_pos hlt,w64 (by omega) (by omega)]
   ·rw [if_neg (by omega),w64 (by omega) (by omega)]
  ·intro i a _ hi hg hp
   rw [zeT.eq_1,if_pos (by omega)]
   simp only [zar,hg,zdV,zhh _ _ hl,zka,Option.bind_eq_bind,Option.bind_some]
   by_cases q1:zdl a.Name=true
   ·rw [if_pos q1]
    have tail:¬ (FitP h.Objects a.Value∧zlD a.Value=false)→∀ X:Option (Unit ⊕ Bool),(if decide (FitP h.Objects a.Value)=true then (if zlD a.Value=true then some (.inr false) else X) else some (.inr false))=some (.inr false):=by
     intro hq X
     by_cases q2:FitP h.Objects a.Value
     ·rw [if_pos (decide_eq_true q2)]
      cases hz:zlD a.Value with
      | true=>rfl
      | false=>exact absurd ⟨q2,hz⟩ hq
     ·rw [if_neg (by rw [decide_eq_false q2];simp)]
    by_cases h0:0<i
    ·have hg1:=List.getElem?_eq_getElem (show i - 1<l.length by omega)
     rw [if_pos (by omega),w64 (n:=(i:Int) - 1) (by omega) (by omega),show ((i:Int) - 1)=((i - 1:Nat):Int) by omega,zar,hg1]
     simp only [Option.bind_some]
     by_cases hlt:Op.bytesLess (l[i - 1]).Name.toList a.Name.toList=true
     ·rw [if_pos hlt]
      refine tail (fun q=>hp ⟨⟨q1,q.1,q.2⟩,fun _ c hc=>?_⟩) _
      rw [hg1] at hc;cases hc;exact hlt
     ·rw [if_neg hlt]
    ·rw [if_neg (by omega)]
     exact tail (fun q=>hp ⟨⟨q1,q.1,q.2⟩,fun e=>absurd e h0⟩) _
   ·rw [if_neg q1]
  ·rw [zeT.eq_1,if_neg (by omega)]
 ·rw [if_pos (by omega)]
  exact congrArg some (decide_eq_false (fun q:zji h.Objects l=>hn q.1)).symm
theorem zkh (h:THeap) (hl:h.Objects.length≤1048576) (hS:SrtI TObject.Id h.Objects) (l:List TBinding) (hv:l.length≤1048576):zgj l h=some (decide (zji h.Objects l)):=by
 unfold zgj
 by_cases hn:l.length≤40
 ·rw [if_pos (by omega),zpt l hv]
  simp only [Option.bind_eq_bind,Option.bind_some]
  by_cases hs:Srt TBinding.Name l
  ·rw [if_pos (decide_eq_true hs)]
   unfold zfd
   rw [zdK l l.length (zcw l l l.length h) (fun b=>zgD b h) (fun b=>decide (VarP h.Objects b)) (fun i=>zcw.eq_1 ..) rfl (by omega) (fun b _=>?_),zjQ]
   ·by_cases hA:∀ b ∈ l,VarP h.Objects b
    ·rw [decide_eq_true hA,decide_eq_true (show zji h.Objects l from ⟨hn,hs,hA⟩)];rfl
    ·rw [decide_eq_false hA,decide_eq_false (fun q:zji h.Objects l=>hA q.2.2)];rfl
   ·unfold zgD
    rw [zsJ,zkf h _ hl hS]
    simp only [Option.bind_eq_bind,Option.bind_some]
    by_cases q1:zsI b
    ·rw [if_pos (decide_eq_true q1)]
     exact congrArg some (decide_eq_decide.2 ⟨fun q=>⟨q1.1,q,q1.2.2⟩,fun q=>q.2.1⟩)
    ·rw [if_neg (by rw [decide_eq_false q1];simp)]
     exact congrArg some (decide_eq_false (fun q:VarP h.Objects b=>q1 ⟨q.1,q.2.1.1,q.2.2⟩)).symm
  ·rw [if_neg (by rw [decide_eq_false hs];simp)]
   exact congrArg some (decide_eq_false (fun q:zji h.Objects l=>hs q.2.1)).symm
 ·rw [if_neg (by omega)]
  exact congrArg some (decide_eq_false (fun q:zji h.Objects l=>hn q.1)).symm
end Go.Vx.CrZ
