/-
  Objects that are valid.
-/
import Derived.Test.YtnaaflejkfaiaaaGreatH1
set_option linter.unusedVariables false
set_option linter.unusedSimpArgs false
namespace Go.Vx.RmZ
open Classical
def zks:TValue:=TValue.mk 0 0 ByteArray.empty 0
theorem zyz (v:TValue):((decide (v.Kind=0)) && ((decide (v.Num=0)) && ((decide (v.Text=ByteArray.empty)) && (decide (v.Ref=0)))))=decide (v=zks):=veq v zks
def Arr (o:TObject):Prop:=o.Name=⟨#[]⟩∧(-1000<=o.Low∧o.Low<=1000)∧o.Keys.length=0∧o.Default=zks
def Tab (o:TObject):Prop:=o.Name=⟨#[]⟩∧o.Low=0∧o.Keys.length=o.Vals.length∧(∀ v ∈ o.Keys,vOK v=true)∧o.Keys.Nodup∧vOK o.Default=true
def Rcd (o:TObject):Prop:=zdn o.Name=true∧o.Low=0∧o.Keys.length=o.Vals.length∧zhk o.Keys∧o.Default=zks
def ObjK (o:TObject):Prop:=(o.Kind=1∧Arr o) ∨ (o.Kind=2∧Tab o) ∨ (o.Kind=3∧Rcd o)
def ObjP (o:TObject):Prop:=(1<=o.Id∧o.Id<=1000000)∧o.Vals.length<=30∧(∀ v ∈ o.Vals,vOK v=true)∧ObjK o
theorem zBh (o:TObject) (h:o.Kind=1):ObjK o ↔ Arr o:=by simp [ObjK,h]
theorem zBi (o:TObject) (h:o.Kind=2):ObjK o ↔ Tab o:=by simp [ObjK,h]
theorem zBj (o:TObject) (h:o.Kind=3):ObjK o ↔ Rcd o:=by simp [ObjK,h]
theorem zBk (o:TObject) (h1:¬ o.Kind=1) (h2:¬ o.Kind=2) (h3:¬ o.Kind=3):¬ ObjK o:=by simp [ObjK,h1,h2,h3]
theorem lenE (a b:Nat):((a:Int)=(b:Int)) ↔ a=b:=by omega
theorem lenZ (a:Nat):((a:Int)=0) ↔ a=0:=by omega
theorem allE (l:List TValue):(l.all vOK=true) ↔ ∀ v ∈ l,vOK v=true:=List.all_eq_true
theorem ztM (o:TObject) (h1:o.Keys.length<=1048576) (hv:o.Vals.length<=30):zeM o=some (decide (ObjK o)):=by
 unfold zeM
 rw [zcI,zkr _ _ (by omega),ziw _ (by omega),zon _ (by omega)]
 simp only [zeF,zea,zyz,Option.bind_eq_bind,Option.bind_some,lenE,lenZ]
 by_cases k1:o.Kind=1
 ·rw [if_pos k1]
  have eK:decide (ObjK o)=decide (Arr o):=decide_eq_decide.2 (zBh o k1)
  rw [eK]
  unfold Arr
  by_cases a:o.Name=⟨#[]⟩ <;> by_cases b:(-1000<=o.Low∧o.Low<=1000) <;> by_cases c:o.Keys.length=0 <;> by_cases d:o.Default=zks <;> simp [a,b,c,d]
 ·rw [if_neg k1]
  by_cases k2:o.Kind=2
  ·rw [if_pos k2]
   have eK:decide (ObjK o)=decide (Tab o):=decide_eq_decide.2 (zBi o k2)
   rw [eK]
   by_cases a:o.Name=⟨#[]⟩
   ·rw [if_pos a]
    by_cases b:o.Low=0
    ·rw [if_pos b]
     by_cases c:o.Keys.length=o.Vals.length
     ·rw [if_pos c,decide_eq_true (show (o.Keys.length:Int)<=30 by omega),Bool.true_and]
      by_cases d:o.Keys.all vOK=true
      ·rw [if_pos d]
       by_cases e:o.Keys.Nodup
       ·rw [if_pos (decide_eq_true e)]
        exact zAh ⟨fun q=>⟨a,b,c,(allE _).1 d,e,q⟩,fun q=>q.2.2.2.2.2⟩
       ·rw [if_neg (by rw [decide_eq_false e];simp)]
        exact congrArg some (decide_eq_false (fun q:Tab o=>e q.2.2.2.2.1)).symm
      ·rw [if_neg d]
       exact congrArg some (decide_eq_false (fun q:Tab o=>d ((allE _).2 q.2.2.2.1))).symm
     ·rw [if_neg c]
      exact congrArg some (decide_eq_false (fun q:Tab o=>c q.2.2.1)).symm
    ·rw [if_neg b]
     exact congrArg some (decide_eq_false (fun q:Tab o=>b q.2.1)).symm
   ·rw [if_neg a]
    exact congrArg some (decide_eq_false (fun q:Tab o=>a q.1)).symm
  ·rw [if_neg k2]
   by_cases k3:o.Kind=3
   ·rw [if_pos k3]
    have eK:decide (ObjK o)=decide (Rcd o):=decide_eq_decide.2 (zBj o k3)
    rw [eK]
    unfold Rcd
    by_cases a:zdn o.Name=true <;> by_cases b:o.Low=0 <;> by_cases c:o.Keys.length=o.Vals.length <;> by_cases d:zhk o.Keys <;> by_cases e:o.Default=zks <;> simp [a,b,c,d,e]
   ·rw [if_neg k3,decide_eq_false (zBk o k1 k2 k3)]
theorem zpl (o:TObject) (h1:o.Keys.length<=1048576) (h2:o.Vals.length<=1048576):zgz o=some (decide (ObjP o)):=by
 unfold zgz
 rw [zcI,zkr _ _ (by omega)]
 simp only [Option.bind_eq_bind,Option.bind_some]
 by_cases a:1<=o.Id∧o.Id<=1000000
 ·rw [if_pos (decide_eq_true a)]
  by_cases b:o.Vals.length<=30
  ·rw [decide_eq_true (show (o.Vals.length:Int)<=30 by omega),Bool.true_and]
   by_cases c:o.Vals.all vOK=true
   ·rw [if_pos c,ztM o h1 b]
    exact congrArg some (decide_eq_decide.2 ⟨fun q=>⟨a,b,(allE _).1 c,q⟩,fun q=>q.2.2.2⟩)
   ·rw [if_neg c]
    exact congrArg some (decide_eq_false (fun q:ObjP o=>c ((allE _).2 q.2.2.1))).symm
  ·rw [decide_eq_false (show ¬ (o.Vals.length:Int)<=30 by omega),Bool.false_and,if_neg (by simp)]
   exact congrArg some (decide_eq_false (fun q:ObjP o=>b q.2.1)).symm
 ·rw [if_neg (by rw [decide_eq_false a];simp)]
  exact congrArg some (decide_eq_false (fun q:ObjP o=>a q.1)).symm
theorem ztN (o:TObject) (h1:o.Keys.length<=1048576):zdU o=some (decide (ObjK o)):=by
 unfold zdU zcL zbs
 rw [zbd,znd _ (by omega),ztL _ (by omega),zqf _ (by omega)]
 simp only [zdo,zfJ,Option.bind_eq_bind,Option.bind_some,lenE,lenZ]
 have hz:∀ {α:Type} (v:TValue) (x y:α),(if v.Kind=0 then if v.Num=0 then if v.Text=ByteArray.empty then if v.Ref=0 then x else y else y else y else y)=if v=zks then x else y:=by
  intro α v x y
  have:=zyz v
  rw [<- dand,<- dand,<- dand] at this
  have hi:=decide_eq_decide.1 this
  by_cases q:v=zks
  ·obtain ⟨q1,q2,q3,q4⟩:=hi.2 q
   rw [if_pos q1,if_pos q2,if_pos q3,if_pos q4,if_pos q]
  ·rw [if_neg q]
   by_cases q1:v.Kind=0
   ·rw [if_pos q1]
    by_cases q2:v.Num=0
    ·rw [if_pos q2]
     by_cases q3:v.Text=ByteArray.empty
     ·rw [if_pos q3,if_neg (fun q4=>q (hi.1 ⟨q1,q2,q3,q4⟩))]
     ·rw [if_neg q3]
    ·rw [if_neg q2]
   ·rw [if_neg q1]
 simp only [hz]
 by_cases k1:o.Kind=1
 ·rw [if_pos k1]
  have eK:decide (ObjK o)=decide (Arr o):=decide_eq_decide.2 (zBh o k1)
  rw [eK]
  unfold Arr
  by_cases a:o.Name=⟨#[]⟩ <;> by_cases b:(-1000<=o.Low∧o.Low<=1000) <;> by_cases c:o.Keys.length=0 <;> by_cases d:o.Default=zks <;> simp [a,b,c,d]
 ·rw [if_neg k1]
  by_cases k2:o.Kind=2
  ·rw [if_pos k2]
   have eK:decide (ObjK o)=decide (Tab o):=decide_eq_decide.2 (zBi o k2)
   rw [eK]
   have hA:=allE o.Keys
   unfold Tab
   simp only [<- hA]
   by_cases a:o.Name=⟨#[]⟩ <;> by_cases b:o.Low=0 <;> by_cases c:o.Keys.length=o.Vals.length <;> by_cases d:o.Keys.all vOK=true <;> by_cases e:o.Keys.Nodup <;> by_cases f:vOK o.Default=true <;> simp only [a,b,c,d,e,f,if_true,if_false,decide_true,decide_false,true_and,false_and,and_self,and_true,and_false,Bool.false_eq_true,Option.bind_some]
  ·rw [if_neg k2]
   by_cases k3:o.Kind=3
   ·rw [if_pos k3]
    have eK:decide (ObjK o)=decide (Rcd o):=decide_eq_decide.2 (zBj o k3)
    rw [eK]
    have hF:zhk o.Keys ↔ (1<=o.Keys.length∧o.Keys.length<=6∧o.Keys.all ziY=true∧o.Keys.Nodup):=by
     unfold zhk
     rw [List.all_eq_true]
    unfold Rcd
    simp only [hF]
    have g1:((o.Keys.length:Int) ≥ 1) ↔ 1<=o.Keys.length:=by omega
    have g2:((o.Keys.length:Int)<=6) ↔ o.Keys.length<=6:=by omega
    simp only [g1,g2]
    by_cases c:o.Keys.length=o.Vals.length
    ·simp only [c,if_true,true_and]
     by_cases a:zdn o.Name=true <;> by_cases b:o.Low=0 <;> by_cases d1:1<=o.Vals.length <;> by_cases d2:o.Vals.length<=6 <;> by_cases d3:o.Keys.all ziY=true <;> by_cases d4:o.Keys.Nodup <;> by_cases e:o.Default=zks <;> simp only [a,b,d1,d2,d3,d4,e,if_true,if_false,decide_true,decide_false,true_and,false_and,and_self,and_true,and_false,Bool.false_eq_true,Option.bind_some]
    ·by_cases a:zdn o.Name=true <;> by_cases b:o.Low=0 <;> by_cases d1:1<=o.Keys.length <;> by_cases d2:o.Keys.length<=6 <;> by_cases d3:o.Keys.all ziY=true <;> by_cases d4:o.Keys.Nodup <;> by_cases e:o.Default=zks <;> simp only [a,b,c,d1,d2,d3,d4,e,if_true,if_false,decide_true,decide_false,true_and,false_and,and_self,and_true,and_false,Bool.false_eq_true,Option.bind_some]
   ·rw [if_neg k3,decide_eq_false (zBk o k1 k2 k3)]
theorem zuS (o:TObject) (h1:o.Keys.length<=1048576) (h2:o.Vals.length<=1048576):zeu o=some (decide (ObjP o)):=by
 unfold zeu
 rw [zpj,znd _ (by omega),ztN o h1]
 simp only [Option.bind_eq_bind,Option.bind_some]
 by_cases a:1<=o.Id∧o.Id<=1000000
 ·rw [if_pos (decide_eq_true a)]
  by_cases b:o.Vals.length<=30
  ·rw [if_neg (by omega)]
   by_cases c:o.Vals.all vOK=true
   ·rw [if_pos c]
    exact congrArg some (decide_eq_decide.2 ⟨fun q=>⟨a,b,(allE _).1 c,q⟩,fun q=>q.2.2.2⟩)
   ·rw [if_neg c]
    exact congrArg some (decide_eq_false (fun q:ObjP o=>c ((allE _).2 q.2.2.1))).symm
  ·rw [if_pos (by omega)]
   exact congrArg some (decide_eq_false (fun q:ObjP o=>b q.2.1)).symm
 ·rw [if_neg (by rw [decide_eq_false a];simp)]
  exact congrArg some (decide_eq_false (fun q:ObjP o=>a q.1)).symm
end Go.Vx.RmZ

