/-
  Scopes that are valid.
-/
import Derived.Test.YtdhpbbopmlppfaaGreatP3s
import Derived.Test.YtdhpbbopmlppfaaGreatP2n
set_option linter.unusedVariables false
set_option linter.unusedSimpArgs false
namespace Go.Vx.CmZ
set_option linter.unusedVariables false
open Classical
theorem zeK {α:Type} (f:α→Nat) (xs:List α) {a:α} (h:a ∈ xs):f a≤lsum f xs:=by
 induction xs with
 | nil=>cases h
 | cons x r ih =>
  rw [zaf]
  rcases List.mem_cons.1 h with e|e
  ·subst e;omega
  ·have:=ih e;omega
def FnOK (f:TFunction):Prop:=zaA f.Name=true∧zaA f.Label=true∧f.Params.length≤6∧f.Locals.length≤6∧zjD (f.Params++f.Locals)
def zew (t:TRecordType):Prop:=zaA t.Name=true∧1≤t.Fields.length∧t.Fields.length≤6∧zjD t.Fields
def zgO (b:TBinding):Prop:=zaA b.Name=true∧vOK b.Value=true∧zlq b.Value=false
theorem zoR (l:List ByteArray):(l.all zaA=true) ↔ ∀ x ∈ l,zaA x=true:=List.all_eq_true
theorem zyR (f:TFunction) (h:f.Params.length + f.Locals.length≤1048576):zbz f=some (decide (FnOK f)):=by
 unfold zbz zby zaP zad
 rw [zbb (show f.Params.length + f.Locals.length≤most by unfold most;omega)]
 have hl:(f.Params++f.Locals).length=f.Params.length + f.Locals.length:=List.length_append
 obtain ⟨r,hr,hrl⟩:=zmu (f.Params++f.Locals) (by omega)
 simp only [Option.bind_eq_bind,Option.bind_some]
 rw [zbb (show (f.Params++f.Locals).length≤most by unfold most;omega),zft _ (by omega)]
 simp only [Option.bind_some,zcE,hr]
 have hA:=zoR (f.Params++f.Locals)
 by_cases h1:zaA f.Name=true
 ·by_cases h2:zaA f.Label=true
  ·by_cases h3:f.Params.length≤6
   ·by_cases h4:f.Locals.length≤6
    ·by_cases h5:(f.Params++f.Locals).all zaA=true
     ·have e:((r.length:Int)=((f.Params++f.Locals).length:Int)) ↔ (f.Params++f.Locals).Nodup:=by rw [← hrl];omega
      have h5':=hA.1 h5
      rw [if_pos (show (f.Params.length:Int)≤6 by omega)]
      simp only [h1,h2,if_true]
      rw [if_pos (decide_eq_true (show (f.Locals.length:Int)≤6 by omega)),if_pos h5]
      exact congrArg some (decide_eq_decide.2 (by rw [e];exact ⟨fun q=>⟨h1,h2,h3,h4,h5',q⟩,fun q=>q.2.2.2.2.2⟩))
     ·have hn:¬ FnOK f:=fun q=>h5 (hA.2 q.2.2.2.2.1)
      rw [decide_eq_false hn,if_pos (show (f.Params.length:Int)≤6 by omega)]
      simp only [h1,h2,if_true]
      rw [if_pos (decide_eq_true (show (f.Locals.length:Int)≤6 by omega)),if_neg h5]
    ·rw [if_pos (show (f.Params.length:Int)≤6 by omega)]
     simp only [h1,h2,if_true]
     rw [if_neg (by rw [decide_eq_false (show ¬ (f.Locals.length:Int)≤6 by omega)];simp)]
     exact congrArg some (decide_eq_false (fun q:FnOK f=>h4 q.2.2.2.1)).symm
   ·rw [if_neg (show ¬ (f.Params.length:Int)≤6 by omega)]
    simp only [h1,h2,if_true]
    rw [if_neg (by simp)]
    exact congrArg some (decide_eq_false (fun q:FnOK f=>h3 q.2.2.1)).symm
  ·rw [decide_eq_false (fun q:FnOK f=>h2 q.2.1)]
   simp only [h1,h2,if_true]
   split <;> rfl
 ·rw [decide_eq_false (fun q:FnOK f=>h1 q.1)]
  simp only [h1]
  split <;> rfl
theorem zsS (t:TRecordType) (h:t.Fields.length≤1048576):zbk t=some (decide (zew t)):=by
 unfold zbk zhu zfC zad
 obtain ⟨r,hr,hrl⟩:=zmu t.Fields h
 rw [zbb (show t.Fields.length≤most by unfold most;omega),zft _ (by omega)]
 simp only [Option.bind_eq_bind,Option.bind_some,zcE,hr]
 have hA:=zoR t.Fields
 by_cases h1:zaA t.Name=true
 ·rw [if_pos h1]
  by_cases h2:1≤t.Fields.length
  ·rw [if_neg (by omega)]
   by_cases h3:t.Fields.length≤6
   ·rw [if_neg (by omega)]
    by_cases h5:t.Fields.all zaA=true
    ·rw [if_pos h5]
     have e:((r.length:Int)=(t.Fields.length:Int)) ↔ t.Fields.Nodup:=by rw [← hrl];omega
     exact congrArg some (decide_eq_decide.2 (by rw [e];exact ⟨fun q=>⟨h1,h2,h3,hA.1 h5,q⟩,fun q=>q.2.2.2.2⟩))
    ·rw [if_neg h5,decide_eq_false (fun q:zew t=>h5 (hA.2 q.2.2.2.1))];rfl
   ·rw [if_pos (by omega),decide_eq_false (fun q:zew t=>h3 q.2.2.1)];rfl
  ·rw [if_pos (by omega),decide_eq_false (fun q:zew t=>h2 q.2.1)];rfl
 ·rw [if_neg h1,decide_eq_false (fun q:zew t=>h1 q.1)]
theorem zsT (b:TBinding):zbP b=some (decide (zgO b)):=by
 unfold zbP
 simp only [zcE,zdT,znE,Option.bind_eq_bind,Option.bind_some]
 have hP:zgO b ↔ (zaA b.Name=true∧vOK b.Value=true∧zlq b.Value=false):=Iff.rfl
 simp only [hP]
 cases zaA b.Name <;> cases vOK b.Value <;> cases zlq b.Value <;> simp
theorem zyS (f:TFunction) (h:f.Params.length + f.Locals.length≤1048576):zeB f=some (decide (FnOK f)):=by
 unfold zeB zer
 rw [zbb (show f.Params.length≤most by unfold most;omega),zck (show f.Params.length + f.Locals.length≤most by unfold most;omega)]
 simp only [Option.bind_eq_bind,Option.bind_some,zbA]
 rw [zks _ (by rw [List.length_append];exact h)]
 by_cases h1:zaA f.Name=true
 ·rw [if_pos h1]
  by_cases h2:zaA f.Label=true
  ·rw [if_pos h2]
   by_cases h3:f.Params.length≤6
   ·rw [if_neg (by omega)]
    by_cases h4:f.Locals.length≤6
    ·rw [if_neg (by omega)]
     exact congrArg some (decide_eq_decide.2 ⟨fun q=>⟨h1,h2,h3,h4,q⟩,fun q=>q.2.2.2.2⟩)
    ·rw [if_pos (by omega),decide_eq_false (fun q:FnOK f=>h4 q.2.2.2.1)]
   ·rw [if_pos (by omega),decide_eq_false (fun q:FnOK f=>h3 q.2.2.1)]
  ·rw [if_neg h2,decide_eq_false (fun q:FnOK f=>h2 q.2.1)]
 ·rw [if_neg h1,decide_eq_false (fun q:FnOK f=>h1 q.1)]
theorem zsU (t:TRecordType) (h:t.Fields.length≤1048576):zhM t=some (decide (zew t)):=by
 unfold zhM
 simp only [Option.bind_eq_bind,Option.bind_some,zbA,zgk]
 rw [zks _ h]
 by_cases h1:zaA t.Name=true
 ·rw [if_pos h1]
  by_cases h2:1≤t.Fields.length∧t.Fields.length≤6
  ·rw [if_pos (decide_eq_true (by omega))]
   exact congrArg some (decide_eq_decide.2 ⟨fun q=>⟨h1,h2.1,h2.2,q⟩,fun q=>q.2.2.2⟩)
  ·rw [if_neg (by rw [decide_eq_false (by omega)];simp),decide_eq_false (fun q:zew t=>h2 ⟨q.2.1,q.2.2.1⟩)]
 ·rw [if_neg h1,decide_eq_false (fun q:zew t=>h1 q.1)]
def zbq (x:TScope):Prop:=(x.Vars.length≤40∧x.Functions.length≤12∧x.Types.length≤8)∧(Srt TBinding.Name x.Vars∧Srt TFunction.Name x.Functions∧Srt TRecordType.Name x.Types)∧(∀ b ∈ x.Vars,zgO b)∧(∀ b ∈ x.Functions,FnOK b)∧∀ b ∈ x.Types,zew b
theorem zhU {α:Type} (nm:α→ByteArray) (xs:List α) (hs:xs.length≤1048576) (L:Int→Option (Unit ⊕ Bool))
  (hL:∀ i,L i=if i<(xs.length:Int) then (idx xs (IntKind.wrap .i64 (i - 1)) >>= fun a=>some (nm a) >>= fun r=>idx xs i >>= fun b=>some (nm b) >>= fun q=>if (Op.bytesLess r.toList q.toList)=true then L (IntKind.wrap .i64 (i + 1)) else some (.inr false)) else some (.inl ())) :
  L 1=if Srt nm xs then some (.inl ()) else some (.inr false):=by
 cases xs with
 | nil =>
  rw [hL,if_neg (by simp),if_pos]
  intro i a b h1 h2
  cases h1
 | cons x0 r =>
  have hh:=zdz (x0::r) L false (fun i b=>∀ a,(x0::r)[i - 1]? = some a→ltB (nm a) (nm b)=true) 1 (by simp) ?_ ?_ ?_
  ·rw [show ((1:Nat):Int)=1 from rfl] at hh
   rw [hh]
   have hiff:(∀ (i:Nat) b,1≤i→(x0::r)[i]? = some b→∀ a,(x0::r)[i - 1]? = some a→ltB (nm a) (nm b)=true) ↔ Srt nm (x0::r):=by
    constructor
    ·intro h i a b h1 h2;exact h (i + 1) b (by omega) h2 a h1
    ·intro h i b hi h1 a h2
     refine h (i - 1) a b h2 ?_
     rw [show i - 1 + 1=i by omega];exact h1
   by_cases hS:Srt nm (x0::r)
   ·rw [if_pos hS,if_pos (hiff.2 hS)]
   ·rw [if_neg hS,if_neg (fun h=>hS (hiff.1 h))]
  ·intro i b h1 h2 hg hp
   have hg1:=List.getElem?_eq_getElem (show i - 1<(x0::r).length by omega)
   rw [hL,if_pos (by omega),w64 (by omega) (by omega),show ((i:Int) - 1)=((i - 1:Nat):Int) by omega,zai,zai,hg,hg1]
   have this:Op.bytesLess (nm (x0::r)[i - 1]).toList (nm b).toList=true:=hp _ hg1
   simp only [Option.bind_eq_bind,Option.bind_some]
   rw [if_pos this,w64 (by omega) (by omega)]
  ·intro i b h1 h2 hg hp
   have hg1:=List.getElem?_eq_getElem (show i - 1<(x0::r).length by omega)
   rw [hL,if_pos (by omega),w64 (by omega) (by omega),show ((i:Int) - 1)=((i - 1:Nat):Int) by omega,zai,zai,hg,hg1]
   simp only [Option.bind_eq_bind,Option.bind_some]
   rw [if_neg]
   intro e
   refine hp fun a ha=>?_
   rw [hg1] at ha;cases ha;exact e
  ·rw [hL,if_neg (by omega)]
theorem zpF (l:List TBinding) (h:l.length≤1048576):zco l=some (decide (Srt TBinding.Name l)):=by
 unfold zco
 rw [zhU TBinding.Name l h (zbw l) (fun i=>zbw.eq_1 ..)]
 by_cases hS:Srt TBinding.Name l
 ·rw [if_pos hS,decide_eq_true hS];rfl
 ·rw [if_neg hS,decide_eq_false hS];rfl
theorem zpG (l:List TFunction) (h:l.length≤1048576):zcc l=some (decide (Srt TFunction.Name l)):=by
 unfold zcc
 rw [zhU TFunction.Name l h (zbr l) (fun i=>zbr.eq_1 ..)]
 by_cases hS:Srt TFunction.Name l
 ·rw [if_pos hS,decide_eq_true hS];rfl
 ·rw [if_neg hS,decide_eq_false hS];rfl
theorem zpH (l:List TRecordType) (h:l.length≤1048576):zbx l=some (decide (Srt TRecordType.Name l)):=by
 unfold zbx
 rw [zhU TRecordType.Name l h (zbe l) (fun i=>zbe.eq_1 ..)]
 by_cases hS:Srt TRecordType.Name l
 ·rw [if_pos hS,decide_eq_true hS];rfl
 ·rw [if_neg hS,decide_eq_false hS];rfl
theorem zlr (f:TFunction) {m:Nat} (h:TFunction.n f≤m):f.Params.length + f.Locals.length≤m:=by simp only [TFunction.n] at h;omega
theorem zhV (t:TRecordType) {m:Nat} (h:TRecordType.n t≤m):t.Fields.length≤m:=by simp only [TRecordType.n] at h;omega
theorem zmv {α:Type} (l:List α) (p:α→Prop):(l.all fun a=>decide (p a))=decide (∀ a ∈ l,p a):=by
 rw [Bool.eq_iff_iff,List.all_eq_true,decide_eq_true_iff]
 exact ⟨fun h a ha=>of_decide_eq_true (h a ha),fun h a ha=>decide_eq_true (h a ha)⟩
theorem zsV (l:List TBinding) (h:l.length≤1048576):zdl l=some (decide (∀ b ∈ l,zgO b)):=by
 unfold zdl
 rw [zbv l l.length (zcd l l l.length) zbP (fun b=>decide (zgO b)) (fun i=>zcd.eq_1 ..) rfl (by omega) (fun a _=>zsT a),zmv]
 by_cases hS:∀ b ∈ l,zgO b
 ·rw [decide_eq_true hS];rfl
 ·rw [decide_eq_false hS];rfl
theorem zsW (l:List TFunction) (h:l.length + lsum TFunction.n l≤1048576):zcP l=some (decide (∀ b ∈ l,FnOK b)):=by
 unfold zcP
 rw [zbv l l.length (zbE l l l.length) zbz (fun b=>decide (FnOK b)) (fun i=>zbE.eq_1 ..) rfl (by omega) (fun a ha=>zyR a (zlr a (by have:=zeK TFunction.n l ha;omega))),zmv]
 by_cases hS:∀ b ∈ l,FnOK b
 ·rw [decide_eq_true hS];rfl
 ·rw [decide_eq_false hS];rfl
theorem zsX (l:List TRecordType) (h:l.length + lsum TRecordType.n l≤1048576):zce l=some (decide (∀ b ∈ l,zew b)):=by
 unfold zce
 rw [zbv l l.length (zbs l l l.length) zbk (fun b=>decide (zew b)) (fun i=>zbs.eq_1 ..) rfl (by omega) (fun a ha=>zsS a (zhV a (by have:=zeK TRecordType.n l ha;omega))),zmv]
 by_cases hS:∀ b ∈ l,zew b
 ·rw [decide_eq_true hS];rfl
 ·rw [decide_eq_false hS];rfl
theorem zjE (x:TScope) (h:TScope.n x≤1048576):zfs x=some (decide (zbq x)):=by
 simp only [TScope.n] at h
 unfold zfs zfh zcA
 rw [zpF _ (by omega),zpG _ (by omega),zpH _ (by omega),zsV _ (by omega),zsW _ (by omega),zsX _ (by omega)]
 simp only [Option.bind_eq_bind,Option.bind_some]
 by_cases h1:x.Vars.length≤40
 ·rw [if_neg (by omega)]
  by_cases h2:x.Functions.length≤12
  ·rw [if_neg (by omega)]
   by_cases h3:x.Types.length≤8
   ·rw [if_neg (by omega)]
    by_cases q1:Srt TBinding.Name x.Vars
    ·by_cases q2:Srt TFunction.Name x.Functions
     ·by_cases q3:Srt TRecordType.Name x.Types
      ·rw [decide_eq_true q1,decide_eq_true q2,decide_eq_true q3]
       simp only [if_true]
       by_cases q4:∀ b ∈ x.Vars,zgO b
       ·rw [if_pos (decide_eq_true q4)]
        by_cases q5:∀ b ∈ x.Functions,FnOK b
        ·rw [if_pos (decide_eq_true q5)]
         exact congrArg some (decide_eq_decide.2 ⟨fun q=>⟨⟨h1,h2,h3⟩,⟨q1,q2,q3⟩,q4,q5,q⟩,fun q=>q.2.2.2.2⟩)
        ·rw [if_neg (by rw [decide_eq_false q5];simp)]
         exact congrArg some (decide_eq_false (fun q:zbq x=>q5 q.2.2.2.1)).symm
       ·rw [if_neg (by rw [decide_eq_false q4];simp)]
        exact congrArg some (decide_eq_false (fun q:zbq x=>q4 q.2.2.1)).symm
      ·rw [decide_eq_true q1,decide_eq_true q2,decide_eq_false q3]
       exact congrArg some (decide_eq_false (fun q:zbq x=>q3 q.2.1.2.2)).symm
     ·rw [decide_eq_true q1,decide_eq_false q2]
      exact congrArg some (decide_eq_false (fun q:zbq x=>q2 q.2.1.2.1)).symm
    ·rw [decide_eq_false q1]
     exact congrArg some (decide_eq_false (fun q:zbq x=>q1 q.2.1.1)).symm
   ·rw [if_pos (by omega),decide_eq_false (fun q:zbq x=>h3 q.1.2.2)]
  ·rw [if_pos (by omega),decide_eq_false (fun q:zbq x=>h2 q.1.2.1)]
 ·rw [if_pos (by omega),decide_eq_false (fun q:zbq x=>h1 q.1.1)]
end Go.Vx.CmZ
