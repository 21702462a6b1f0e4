/-
  Scopes that are valid.
-/
import Derived.Test.YtapepbhnleekbaaGreatDoorP3s
import Derived.Test.YtapepbhnleekbaaGreatDoorP2n
set_option linter.unusedVariables false
set_option linter.unusedSimpArgs false
namespace Go.Vx.WvZ
open Classical
theorem zeM {α:Type} (f:α->Nat) (xs:List α) {a:α} (h:a ∈ xs):f a<=lsum f xs:=by
 induction xs with
 | nil=>cases h
 | cons x r ih =>
  rw [zag]
  rcases List.mem_cons.1 h with e|e
  ·subst e;omega
  ·have:=ih e;omega
def FnOK (f:TFunction):Prop:=zaI f.Name=true∧zaI f.Label=true∧f.Params.length<=6∧f.Locals.length<=6∧zjQ (f.Params++f.Locals)
def zew (t:TRecordType):Prop:=zaI t.Name=true∧1<=t.Fields.length∧t.Fields.length<=6∧zjQ t.Fields
def zgL (b:TBinding):Prop:=zaI b.Name=true∧vOK b.Value=true∧ziL b.Value=false
theorem zpo (l:List ByteArray):(l.all zaI=true) ↔ ∀ x ∈ l,zaI x=true:=List.all_eq_true
theorem zzB (f:TFunction) (h:f.Params.length + f.Locals.length<=1048576):zbz f=some (decide (FnOK f)):=by
 unfold zbz zby zaU zad
 rw [zaJ (show f.Params.length + f.Locals.length<=most by unfold most;omega)]
 have hl:(f.Params++f.Locals).length=f.Params.length + f.Locals.length:=List.length_append
 obtain ⟨r,hr,hrl⟩:=zmV (f.Params++f.Locals) (by omega)
 simp only [Option.bind_eq_bind,Option.bind_some]
 rw [zaJ (show (f.Params++f.Locals).length<=most by unfold most;omega),zfu _ (by omega)]
 simp only [Option.bind_some,zcb,hr]
 have hA:=zpo (f.Params++f.Locals)
 by_cases h1:zaI f.Name=true
 ·by_cases h2:zaI f.Label=true
  ·by_cases h3:f.Params.length<=6
   ·by_cases h4:f.Locals.length<=6
    ·by_cases h5:(f.Params++f.Locals).all zaI=true
     ·have e:((r.length:Int)=((f.Params++f.Locals).length:Int)) ↔ (f.Params++f.Locals).Nodup:=by rw [<- hrl];omega
      have h5':=hA.1 h5
      rw [if_pos (show (f.Params.length:Int)<=6 by omega)]
      simp only [h1,h2,if_true]
      rw [if_pos (decide_eq_true (show (f.Locals.length:Int)<=6 by omega)),if_pos h5]
      exact congrArg some (decide_eq_decide.2 (by rw [e];exact ⟨fun q=>⟨h1,h2,h3,h4,h5',q⟩,fun q=>q.2.2.2.2.2⟩))
     ·have hn:¬ FnOK f:=fun q=>h5 (hA.2 q.2.2.2.2.1)
      rw [decide_eq_false hn,if_pos (show (f.Params.length:Int)<=6 by omega)]
      simp only [h1,h2,if_true]
      rw [if_pos (decide_eq_true (show (f.Locals.length:Int)<=6 by omega)),if_neg h5]
    ·rw [if_pos (show (f.Params.length:Int)<=6 by omega)]
     simp only [h1,h2,if_true]
     rw [if_neg (by rw [decide_eq_false (show ¬ (f.Locals.length:Int)<=6 by omega)];simp)]
     exact congrArg some (decide_eq_false (fun q:FnOK f=>h4 q.2.2.2.1)).symm
   ·rw [if_neg (show ¬ (f.Params.length:Int)<=6 by omega)]
    simp only [h1,h2,if_true]
    rw [if_neg (by simp)]
    exact congrArg some (decide_eq_false (fun q:FnOK f=>h3 q.2.2.1)).symm
  ·rw [decide_eq_false (fun q:FnOK f=>h2 q.2.1)]
   simp only [h1,h2,if_true]
   split <;> rfl
 ·rw [decide_eq_false (fun q:FnOK f=>h1 q.1)]
  simp only [h1]
  split <;> rfl
theorem zty (t:TRecordType) (h:t.Fields.length<=1048576):zbj t=some (decide (zew t)):=by
 unfold zbj zht zfE zad
 obtain ⟨r,hr,hrl⟩:=zmV t.Fields h
 rw [zaJ (show t.Fields.length<=most by unfold most;omega),zfu _ (by omega)]
 simp only [Option.bind_eq_bind,Option.bind_some,zcb,hr]
 have hA:=zpo t.Fields
 by_cases h1:zaI t.Name=true
 ·rw [if_pos h1]
  by_cases h2:1<=t.Fields.length
  ·rw [if_neg (by omega)]
   by_cases h3:t.Fields.length<=6
   ·rw [if_neg (by omega)]
    by_cases h5:t.Fields.all zaI=true
    ·rw [if_pos h5]
     have e:((r.length:Int)=(t.Fields.length:Int)) ↔ t.Fields.Nodup:=by rw [<- hrl];omega
     exact congrArg some (decide_eq_decide.2 (by rw [e];exact ⟨fun q=>⟨h1,h2,h3,hA.1 h5,q⟩,fun q=>q.2.2.2.2⟩))
    ·rw [if_neg h5,decide_eq_false (fun q:zew t=>h5 (hA.2 q.2.2.2.1))];rfl
   ·rw [if_pos (by omega),decide_eq_false (fun q:zew t=>h3 q.2.2.1)];rfl
  ·rw [if_pos (by omega),decide_eq_false (fun q:zew t=>h2 q.2.1)];rfl
 ·rw [if_neg h1,decide_eq_false (fun q:zew t=>h1 q.1)]
theorem ztz (b:TBinding):zbP b=some (decide (zgL b)):=by
 unfold zbP
 simp only [zcb,zcD,zjP,Option.bind_eq_bind,Option.bind_some]
 have hP:zgL b ↔ (zaI b.Name=true∧vOK b.Value=true∧ziL b.Value=false):=Iff.rfl
 simp only [hP]
 cases zaI b.Name <;> cases vOK b.Value <;> cases ziL b.Value <;> simp
theorem zzC (f:TFunction) (h:f.Params.length + f.Locals.length<=1048576):zeC f=some (decide (FnOK f)):=by
 unfold zeC zer
 rw [zaJ (show f.Params.length<=most by unfold most;omega),zcx (show f.Params.length + f.Locals.length<=most by unfold most;omega)]
 simp only [Option.bind_eq_bind,Option.bind_some,zbp]
 rw [zkM _ (by rw [List.length_append];exact h)]
 by_cases h1:zaI f.Name=true
 ·rw [if_pos h1]
  by_cases h2:zaI f.Label=true
  ·rw [if_pos h2]
   by_cases h3:f.Params.length<=6
   ·rw [if_neg (by omega)]
    by_cases h4:f.Locals.length<=6
    ·rw [if_neg (by omega)]
     exact congrArg some (decide_eq_decide.2 ⟨fun q=>⟨h1,h2,h3,h4,q⟩,fun q=>q.2.2.2.2⟩)
    ·rw [if_pos (by omega),decide_eq_false (fun q:FnOK f=>h4 q.2.2.2.1)]
   ·rw [if_pos (by omega),decide_eq_false (fun q:FnOK f=>h3 q.2.2.1)]
  ·rw [if_neg h2,decide_eq_false (fun q:FnOK f=>h2 q.2.1)]
 ·rw [if_neg h1,decide_eq_false (fun q:FnOK f=>h1 q.1)]
theorem ztA (t:TRecordType) (h:t.Fields.length<=1048576):zhM t=some (decide (zew t)):=by
 unfold zhM
 simp only [Option.bind_eq_bind,Option.bind_some,zbp,zgK]
 rw [zkM _ h]
 by_cases h1:zaI t.Name=true
 ·rw [if_pos h1]
  by_cases h2:1<=t.Fields.length∧t.Fields.length<=6
  ·rw [if_pos (decide_eq_true (by omega))]
   exact congrArg some (decide_eq_decide.2 ⟨fun q=>⟨h1,h2.1,h2.2,q⟩,fun q=>q.2.2.2⟩)
  ·rw [if_neg (by rw [decide_eq_false (by omega)];simp),decide_eq_false (fun q:zew t=>h2 ⟨q.2.1,q.2.2.1⟩)]
 ·rw [if_neg h1,decide_eq_false (fun q:zew t=>h1 q.1)]
def zbB (x:TScope):Prop:=(x.Vars.length<=40∧x.Functions.length<=12∧x.Types.length<=8)∧(Srt TBinding.Name x.Vars∧Srt TFunction.Name x.Functions∧Srt TRecordType.Name x.Types)∧(∀ b ∈ x.Vars,zgL b)∧(∀ b ∈ x.Functions,FnOK b)∧∀ b ∈ x.Types,zew b
theorem zhW {α:Type} (nm:α->ByteArray) (xs:List α) (hs:xs.length<=1048576) (L:Int->Option (Unit ⊕ Bool))
  (hL:∀ i,L i=if i<(xs.length:Int) then (idx xs (IntKind.wrap .i64 (i - 1)) >>= fun a=>some (nm a) >>= fun r=>idx xs i >>= fun b=>some (nm b) >>= fun q=>if (Op.bytesLess r.toList q.toList)=true then L (IntKind.wrap .i64 (i + 1)) else some (.inr false)) else some (.inl ())) :
  L 1=if Srt nm xs then some (.inl ()) else some (.inr false):=by
 cases xs with
 | nil =>
  rw [hL,if_neg (by simp),if_pos]
  intro i a b h1 h2
  cases h1
 | cons x0 r =>
  have hh:=zdB (x0::r) L false (fun i b=>∀ a,(x0::r)[i - 1]? = some a->ltB (nm a) (nm b)=true) 1 (by simp) ?_ ?_ ?_
  ·rw [show ((1:Nat):Int)=1 from rfl] at hh
   rw [hh]
   have hiff:(∀ (i:Nat) b,1<=i->(x0::r)[i]? = some b->∀ a,(x0::r)[i - 1]? = some a->ltB (nm a) (nm b)=true) ↔ Srt nm (x0::r):=by
    constructor
    ·intro h i a b h1 h2;exact h (i + 1) b (by omega) h2 a h1
    ·intro h i b hi h1 a h2
     refine h (i - 1) a b h2 ?_
     rw [show i - 1 + 1=i by omega];exact h1
   by_cases hS:Srt nm (x0::r)
   ·rw [if_pos hS,if_pos (hiff.2 hS)]
   ·rw [if_neg hS,if_neg (fun h=>hS (hiff.1 h))]
  ·intro i b h1 h2 hg hp
   have hg1:=List.getElem?_eq_getElem (show i - 1<(x0::r).length by omega)
   rw [hL,if_pos (by omega),w64 (by omega) (by omega),show ((i:Int) - 1)=((i - 1:Nat):Int) by omega,zao,zao,hg,hg1]
   have this:Op.bytesLess (nm (x0::r)[i - 1]).toList (nm b).toList=true:=hp _ hg1
   simp only [Option.bind_eq_bind,Option.bind_some]
   rw [if_pos this,w64 (by omega) (by omega)]
  ·intro i b h1 h2 hg hp
   have hg1:=List.getElem?_eq_getElem (show i - 1<(x0::r).length by omega)
   rw [hL,if_pos (by omega),w64 (by omega) (by omega),show ((i:Int) - 1)=((i - 1:Nat):Int) by omega,zao,zao,hg,hg1]
   simp only [Option.bind_eq_bind,Option.bind_some]
   rw [if_neg]
   intro e
   refine hp fun a ha=>?_
   rw [hg1] at ha;cases ha;exact e
  ·rw [hL,if_neg (by omega)]
theorem zqm (l:List TBinding) (h:l.length<=1048576):zcq l=some (decide (Srt TBinding.Name l)):=by
 unfold zcq
 rw [zhW TBinding.Name l h (zbw l) (fun i=>zbw.eq_1 ..)]
 by_cases hS:Srt TBinding.Name l
 ·rw [if_pos hS,decide_eq_true hS];rfl
 ·rw [if_neg hS,decide_eq_false hS];rfl
theorem zqn (l:List TFunction) (h:l.length<=1048576):zbX l=some (decide (Srt TFunction.Name l)):=by
 unfold zbX
 rw [zhW TFunction.Name l h (zbq l) (fun i=>zbq.eq_1 ..)]
 by_cases hS:Srt TFunction.Name l
 ·rw [if_pos hS,decide_eq_true hS];rfl
 ·rw [if_neg hS,decide_eq_false hS];rfl
theorem zqo (l:List TRecordType) (h:l.length<=1048576):zbx l=some (decide (Srt TRecordType.Name l)):=by
 unfold zbx
 rw [zhW TRecordType.Name l h (zbg l) (fun i=>zbg.eq_1 ..)]
 by_cases hS:Srt TRecordType.Name l
 ·rw [if_pos hS,decide_eq_true hS];rfl
 ·rw [if_neg hS,decide_eq_false hS];rfl
theorem zlR (f:TFunction) {m:Nat} (h:TFunction.n f<=m):f.Params.length + f.Locals.length<=m:=by simp only [TFunction.n] at h;omega
theorem zhX (t:TRecordType) {m:Nat} (h:TRecordType.n t<=m):t.Fields.length<=m:=by simp only [TRecordType.n] at h;omega
theorem zmW {α:Type} (l:List α) (p:α->Prop):(l.all fun a=>decide (p a))=decide (∀ a ∈ l,p a):=by
 rw [Bool.eq_iff_iff,List.all_eq_true,decide_eq_true_iff]
 exact ⟨fun h a ha=>of_decide_eq_true (h a ha),fun h a ha=>decide_eq_true (h a ha)⟩
theorem ztB (l:List TBinding) (h:l.length<=1048576):zdl l=some (decide (∀ b ∈ l,zgL b)):=by
 unfold zdl
 rw [zbu l l.length (zbY l l l.length) zbP (fun b=>decide (zgL b)) (fun i=>zbY.eq_1 ..) rfl (by omega) (fun a _=>ztz a),zmW]
 by_cases hS:∀ b ∈ l,zgL b
 ·rw [decide_eq_true hS];rfl
 ·rw [decide_eq_false hS];rfl
theorem ztC (l:List TFunction) (h:l.length + lsum TFunction.n l<=1048576):zcL l=some (decide (∀ b ∈ l,FnOK b)):=by
 unfold zcL
 rw [zbu l l.length (zbF l l l.length) zbz (fun b=>decide (FnOK b)) (fun i=>zbF.eq_1 ..) rfl (by omega) (fun a ha=>zzB a (zlR a (by have:=zeM TFunction.n l ha;omega))),zmW]
 by_cases hS:∀ b ∈ l,FnOK b
 ·rw [decide_eq_true hS];rfl
 ·rw [decide_eq_false hS];rfl
theorem ztD (l:List TRecordType) (h:l.length + lsum TRecordType.n l<=1048576):zbZ l=some (decide (∀ b ∈ l,zew b)):=by
 unfold zbZ
 rw [zbu l l.length (zbr l l l.length) zbj (fun b=>decide (zew b)) (fun i=>zbr.eq_1 ..) rfl (by omega) (fun a ha=>zty a (zhX a (by have:=zeM TRecordType.n l ha;omega))),zmW]
 by_cases hS:∀ b ∈ l,zew b
 ·rw [decide_eq_true hS];rfl
 ·rw [decide_eq_false hS];rfl
theorem zjR (x:TScope) (h:TScope.n x<=1048576):zft x=some (decide (zbB x)):=by
 simp only [TScope.n] at h
 unfold zft zfh zcB
 rw [zqm _ (by omega),zqn _ (by omega),zqo _ (by omega),ztB _ (by omega),ztC _ (by omega),ztD _ (by omega)]
 simp only [Option.bind_eq_bind,Option.bind_some]
 by_cases h1:x.Vars.length<=40
 ·rw [if_neg (by omega)]
  by_cases h2:x.Functions.length<=12
  ·rw [if_neg (by omega)]
   by_cases h3:x.Types.length<=8
   ·rw [if_neg (by omega)]
    by_cases q1:Srt TBinding.Name x.Vars
    ·by_cases q2:Srt TFunction.Name x.Functions
     ·by_cases q3:Srt TRecordType.Name x.Types
      ·rw [decide_eq_true q1,decide_eq_true q2,decide_eq_true q3]
       simp only [if_true]
       by_cases q4:∀ b ∈ x.Vars,zgL b
       ·rw [if_pos (decide_eq_true q4)]
        by_cases q5:∀ b ∈ x.Functions,FnOK b
        ·rw [if_pos (decide_eq_true q5)]
         exact congrArg some (decide_eq_decide.2 ⟨fun q=>⟨⟨h1,h2,h3⟩,⟨q1,q2,q3⟩,q4,q5,q⟩,fun q=>q.2.2.2.2⟩)
        ·rw [if_neg (by rw [decide_eq_false q5];simp)]
         exact congrArg some (decide_eq_false (fun q:zbB x=>q5 q.2.2.2.1)).symm
       ·rw [if_neg (by rw [decide_eq_false q4];simp)]
        exact congrArg some (decide_eq_false (fun q:zbB x=>q4 q.2.2.1)).symm
      ·rw [decide_eq_true q1,decide_eq_true q2,decide_eq_false q3]
       exact congrArg some (decide_eq_false (fun q:zbB x=>q3 q.2.1.2.2)).symm
     ·rw [decide_eq_true q1,decide_eq_false q2]
      exact congrArg some (decide_eq_false (fun q:zbB x=>q2 q.2.1.2.1)).symm
    ·rw [decide_eq_false q1]
     exact congrArg some (decide_eq_false (fun q:zbB x=>q1 q.2.1.1)).symm
   ·rw [if_pos (by omega),decide_eq_false (fun q:zbB x=>h3 q.1.2.2)]
  ·rw [if_pos (by omega),decide_eq_false (fun q:zbB x=>h2 q.1.2.1)]
 ·rw [if_pos (by omega),decide_eq_false (fun q:zbB x=>h1 q.1.1)]
end Go.Vx.WvZ

