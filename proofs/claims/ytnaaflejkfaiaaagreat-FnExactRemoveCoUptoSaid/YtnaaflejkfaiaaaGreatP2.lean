/-
  Names and values, as the reference has them.
-/
import Derived.Test.YtnaaflejkfaiaaaGreatP1
set_option linter.unusedVariables false
set_option linter.unusedSimpArgs false
namespace Go.Vx.RmZ
theorem zmZ (s:ByteArray):s=⟨#[]⟩ ↔ s.data.toList=[]:=by
 constructor
 ·intro h;rw [h]
 ·intro h
  obtain ⟨⟨l⟩⟩:=s
  simp only at h
  subst h;rfl
theorem zkE (s:ByteArray) (h:s.size<=1099511627776):zbl s 0=some (((s.data.toList.takeWhile fun b=>isNB (b.toNat:Int)).length:Nat):Int):=by
 have hz:s.data.toList.length=s.size:=zoK s
 have key:=zdP s.data.toList (fun i rest=>zbl s (i:Int)=some (((i + (rest.takeWhile fun b=>isNB (b.toNat:Int)).length:Nat):Int))) ?_ ?_
 ·simpa using key
 ·rw [zbl.eq_1,if_neg (by omega)];simp
 ·intro i a rest hi hg hd ih
  have ih':zbl s ((i:Int) + 1)=_:=ih
  rw [zbl.eq_1,if_pos (by omega)]
  simp only [idxB,zat,hg,zko,zqb,Option.bind_eq_bind,Option.bind_some]
  rw [w64 (by omega) (by omega),ih',List.takeWhile_cons]
  have hN:isNB (a.toNat:Int)=(zkD a.toNat || zok a.toNat || decide ((a.toNat:Int)=95)):=rfl
  by_cases h1:zkD a.toNat=true
  ·rw [if_pos h1,hN,h1];simp;omega
  ·rw [if_neg h1]
   by_cases h2:zok a.toNat=true
   ·rw [if_pos h2,hN,h2];simp;omega
   ·rw [if_neg h2]
    by_cases h3:(a.toNat:Int)=95
    ·rw [if_pos h3,hN,decide_eq_true h3];simp;omega
    ·rw [if_neg h3,hN,decide_eq_false h3,Bool.eq_false_iff.2 h1,Bool.eq_false_iff.2 h2];simp
theorem zBf {α:Type} (p:α->Bool) (l:List α):decide (((l.takeWhile p).length:Int)=(l.length:Int))=l.all p:=by
 induction l with
 | nil=>rfl
 | cons a r ih =>
  rw [List.takeWhile_cons,List.all_cons,<- ih]
  cases p a with
  | true=>simp only [if_true,List.length_cons,Bool.true_and];exact decide_eq_decide.2 (by omega)
  | false=>simp;omega
theorem zea (s:ByteArray):zfO s=some (zdn s):=by
 unfold zfO zdn
 have hl:(strI s).length=s.size:=zij s
 have hd:strI s=s.data.toList.map fun b=>(b.toNat:Int):=rfl
 have hz:s.data.toList.length=s.size:=zoK s
 cases hs:s.data.toList with
 | nil=>rw [if_pos ((zmZ s).2 hs),hd,hs];rfl
 | cons b r =>
  rw [if_neg (fun e=>by rw [(zmZ s).1 e] at hs;cases hs)]
  rw [hs] at hd hz
  rw [hd] at hl ⊢
  simp only [List.map_cons,List.length_cons] at hl hz ⊢
  by_cases h12:s.size<=12
  ·rw [if_pos (by omega)]
   unfold zhf zfC
   rw [if_neg (by omega)]
   simp only [idxB,idx,hs,zko,Option.bind_eq_bind,zkE s (by omega)]
   simp only [List.length_map] at hl ⊢
   rw [decide_eq_true (show r.length + 1<=12 by omega)]
   have htw:=zBf (fun b:UInt8=>isNB (b.toNat:Int)) (b::r)
   have hall:(((b.toNat:Int)::r.map fun b=>(b.toNat:Int)).all isNB)=(b::r).all fun b=>isNB (b.toNat:Int):=by
    rw [<- List.map_cons (f:=fun b:UInt8=>(b.toNat:Int)),List.all_map];rfl
   rw [List.length_cons] at htw
   have hsz:((s.size:Nat):Int)=((r.length + 1:Nat):Int):=by omega
   cases hL:zkD b.toNat with
   | true=>simp [hL,hall,<- htw,hsz]
   | false=>simp [hL];omega
  ·rw [if_neg (by omega),decide_eq_false (by simp only [List.length_map] at hl ⊢;omega)];simp
theorem zqc (v:TValue) (a b c:Bool):zec v a b c=some ((a || decide (v.Num=0)) && (b || decide (v.Text=⟨#[]⟩)) && (c || decide (v.Ref=0))):=by
 unfold zec
 by_cases hn:v.Num=0 <;> by_cases ht:v.Text=⟨#[]⟩ <;> by_cases hr:v.Ref=0 <;> cases a <;> cases b <;> cases c <;> simp [hn,ht,hr]
theorem zcI (a b c:Int):zcg a b c=some (decide (b<=a∧a<=c)):=by grind [zcg]
theorem zbd (a b c:Int):zbZ a b c=some (decide (b<=a∧a<=c)):=by grind [zbZ]
theorem zpj (a:Int):zfa a=some (decide (1<=a∧a<=1000000)):=by simp only [zfa,zbd];rfl
theorem emp:(ByteArray.empty)=(⟨#[]⟩:ByteArray):=rfl
def vOK (v:TValue):Bool :=
 if v.Kind=1 then decide (v.Num=0) && decide (v.Ref=0) && decide ((v.Text.size:Int)<=200)
 else if v.Kind=2 then decide (v.Text=⟨#[]⟩) && decide (v.Ref=0) && decide (-1000000000000<=v.Num∧v.Num<=1000000000000)
 else if v.Kind=3 then decide (v.Num=0) && decide (v.Ref=0) && decide (1<=(v.Text.size:Int)∧(v.Text.size:Int)<=1200)
 else if v.Kind=4 ∨ v.Kind=5 ∨ v.Kind=6 then decide (v.Num=0) && decide (v.Text=⟨#[]⟩) && decide (1<=v.Ref∧v.Ref<=1000000)
 else if v.Kind=7 ∨ v.Kind=8 then decide (v.Num=0) && decide (v.Ref=0) && zdn v.Text
 else false
theorem dand {p q:Prop} [Decidable p] [Decidable q]:decide (p∧q)=(decide p && decide q):=Bool.decide_and p q
theorem zeF (v:TValue):zbT v=some (vOK v):=by
 simp only [zbT,zdd,zem,zqc,zcI,zea,Option.bind_eq_bind,Option.bind_some]
 unfold vOK
 generalize decide (1<=v.Ref∧v.Ref<=1000000)=q1
 generalize decide (-1000000000000<=v.Num∧v.Num<=1000000000000)=q2
 generalize decide (1<=(v.Text.size:Int)∧(v.Text.size:Int)<=1200)=q3
 generalize decide ((v.Text.size:Int)<=200)=q4
 generalize decide (v.Num=0)=a
 generalize decide (v.Text=⟨#[]⟩)=b
 generalize decide (v.Ref=0)=c
 generalize zdn v.Text=d
 generalize v.Kind=k
 by_cases h1:k=1
 ·subst h1;cases a <;> cases c <;> rfl
 by_cases h2:k=2
 ·subst h2;cases b <;> cases c <;> rfl
 by_cases h3:k=3
 ·subst h3;cases a <;> cases c <;> rfl
 by_cases h4:k=4
 ·subst h4;cases a <;> cases b <;> rfl
 by_cases h5:k=5
 ·subst h5;cases a <;> cases b <;> rfl
 by_cases h6:k=6
 ·subst h6;cases a <;> cases b <;> rfl
 by_cases h7:k=7
 ·subst h7;cases a <;> cases c <;> rfl
 by_cases h8:k=8
 ·subst h8;cases a <;> cases c <;> rfl
 simp [h1,h2,h3,h4,h5,h6,h7,h8]
theorem zdo (v:TValue):zbn v=some (vOK v):=by
 simp only [zbn,zdg,zet,zbd,zpj,zfJ,Option.bind_eq_bind,Option.bind_some,emp]
 unfold vOK
 by_cases h1:v.Kind=1
 ·simp only [h1];by_cases hn:v.Num=0 <;> by_cases hr:v.Ref=0 <;> simp [hn,hr]
 by_cases h2:v.Kind=2
 ·simp only [h2];by_cases ht:v.Text=⟨#[]⟩ <;> by_cases hr:v.Ref=0 <;> simp [ht,hr]
 by_cases h3:v.Kind=3
 ·simp only [h3];by_cases hn:v.Num=0 <;> by_cases hr:v.Ref=0 <;> simp only [hn,hr,dand,decide_true,decide_false,Bool.true_and,Bool.false_and,Bool.and_false,if_true,if_false] <;> (by_cases hs:(v.Text.size:Int) ≥ 1 <;> simp only [hs,ge_iff_le] at * <;> simp [hs])
 by_cases h4:v.Kind=4
 ·simp only [h4];by_cases hn:v.Num=0 <;> by_cases ht:v.Text=⟨#[]⟩ <;> simp [hn,ht]
 by_cases h5:v.Kind=5
 ·simp only [h5];by_cases hn:v.Num=0 <;> by_cases ht:v.Text=⟨#[]⟩ <;> simp [hn,ht]
 by_cases h6:v.Kind=6
 ·simp only [h6];by_cases hn:v.Num=0 <;> by_cases ht:v.Text=⟨#[]⟩ <;> simp [hn,ht]
 by_cases h7:v.Kind=7
 ·simp only [h7];by_cases hn:v.Num=0 <;> by_cases hr:v.Ref=0 <;> simp [hn,hr]
 by_cases h8:v.Kind=8
 ·simp only [h8];by_cases hn:v.Num=0 <;> by_cases hr:v.Ref=0 <;> simp [hn,hr]
 simp [h1,h2,h3,h4,h5,h6,h7,h8]
end Go.Vx.RmZ

