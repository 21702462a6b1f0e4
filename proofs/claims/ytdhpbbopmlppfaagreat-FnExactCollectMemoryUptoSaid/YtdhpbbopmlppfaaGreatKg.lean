/-
  CollectMemory: both sides answer the same.
-/
import Derived.Test.YtdhpbbopmlppfaaGreatU2
import Derived.Test.YtdhpbbopmlppfaaGreatU5
import Derived.Test.YtdhpbbopmlppfaaGreatW7
set_option linter.unusedVariables false
set_option linter.unusedSimpArgs false
namespace Go.Vx.CmZ
set_option linter.unusedVariables false
set_option linter.unusedSimpArgs false
open Classical
theorem zmF (f:TValue→TValue):∀ bs:List TBinding,zhv bs ((bs.map TBinding.Value).map f)=bs.map fun b=>TBinding.mk b.Name (f b.Value)
 | []=>rfl
 | b::bs=>by simp only [List.map_cons,zhv,zmF f bs]
theorem zCw (ids:List Int) (hl:ids.length≤40) (v:TValue) (h:vOK v=true) (hm:isR v→v.Ref ∈ ids):vOK (mvV ids v)=true:=by
 by_cases q:isR v
 ·have hq:=hm q
  have e:mvV ids v=TValue.mk v.Kind v.Num v.Text (newI ids v.Ref):=by simp [mvV,q]
  have h1:=(zlA ids v.Ref).1 hq
  have h2:=zir ids v.Ref
  have hk:v.Kind=4 ∨ v.Kind=5 ∨ v.Kind=6:=by unfold isR at q;omega
  have n1:¬ v.Kind=1:=by omega
  have n2:¬ v.Kind=2:=by omega
  have n3:¬ v.Kind=3:=by omega
  unfold vOK at h ⊢
  rw [e]
  simp only [if_neg n1,if_neg n2,if_neg n3,if_pos hk,Bool.and_eq_true,decide_eq_true_eq] at h ⊢
  exact ⟨h.1,by omega,by omega⟩
 ·have e:mvV ids v=v:=by simp [mvV,q]
  rw [e];exact h
theorem zBS (ids:List Int) (v:TValue) (h:zlq v=false):zlq (mvV ids v)=false:=by
 by_cases q:isR v
 ·have e:mvV ids v=TValue.mk v.Kind v.Num v.Text (newI ids v.Ref):=by simp [mvV,q]
  have n1:¬ v.Kind=1:=by unfold isR at q;omega
  rw [e];unfold zlq
  simp [n1]
 ·have e:mvV ids v=v:=by simp [mvV,q]
  rw [e];exact h
theorem znJ (x:TScope) (hx:zbq x) (ids:List Int) (hl:ids.length≤40) (hm:∀ v ∈ zfD x,isR v→v.Ref ∈ ids):zbq (TScope.mk (x.Vars.map fun b=>TBinding.mk b.Name (mvV ids b.Value)) x.Functions x.Types):=by
 obtain ⟨⟨a1,a2,a3⟩,⟨b1,b2,b3⟩,c1,c2,c3⟩:=hx
 refine ⟨⟨by simpa using a1,a2,a3⟩,⟨?_,b2,b3⟩,?_,c2,c3⟩
 ·intro i a b h1 h2
  simp only [List.getElem?_map,Option.map_eq_some_iff] at h1 h2
  obtain ⟨a',e1,rfl⟩:=h1
  obtain ⟨b',e2,rfl⟩:=h2
  exact b1 i a' b' e1 e2
 ·intro b hb
  obtain ⟨a,ha,rfl⟩:=List.mem_map.1 hb
  obtain ⟨q1,q2,q3⟩:=c1 a ha
  exact ⟨q1,zCw ids hl _ q2 (hm _ (List.mem_map.2 ⟨a,ha,rfl⟩)),zBS ids _ q3⟩
theorem zBT (c:TConsole) (h:TConsole.n c≤1048576):zdp c=some c:=by
 obtain ⟨q1,q2,q3,q4,q5⟩:=ziN c h
 unfold zdp zad
 rw [zbb (show c.Input.length≤most by unfold most;omega),zbb (show c.Output.length≤most by unfold most;omega),zbb (show c.Trace.length≤most by unfold most;omega)]
 simp only [Option.bind_eq_bind,Option.bind_some]
 have key:=zaI c.Files (fun i rest=>∀ d:List TFile,d.length=i→zcf c (TConsole.mk [] 0 [] [] []) c.Files c.Files.length (TConsole.mk c.Input c.At c.Output d c.Trace) (i:Int)=some (TConsole.mk c.Input c.At c.Output (d++rest) c.Trace)) ?_ ?_
 ·have:=key [] rfl
  rw [show ((0:Nat):Int)=0 from rfl] at this
  rw [this];rfl
 ·intro d hd;rw [zcf.eq_1,if_neg (by omega)];simp
 ·intro i a rest hi hg hd ih d hdl
  have hm:a ∈ c.Files:=(List.getElem?_eq_some_iff.1 hg).2 ▸ List.getElem_mem hi
  have:=q5 a hm
  rw [zcf.eq_1,if_pos (by omega),zai,hg]
  unfold zad
  simp only [Option.bind_eq_bind,Option.bind_some]
  rw [zbb (show a.Lines.length≤most by unfold most;omega)]
  simp only [Option.bind_some]
  rw [zck (by unfold most;simp only [List.length_cons,List.length_nil];omega)]
  simp only [Option.bind_some]
  rw [w64 (by omega) (by omega),show ((i:Int) + 1)=((i + 1:Nat):Int) by omega,ih (d++[a]) (by simp [hdl])]
  simp
theorem zBU (c:TConsole) (h:TConsole.n c≤1048576):zfr c=some c:=by
 obtain ⟨q1,q2,q3,q4,q5⟩:=ziN c h
 unfold zfr
 rw [zbb (show c.Input.length≤most by unfold most;omega),zbb (show c.Output.length≤most by unfold most;omega),zbb (show c.Trace.length≤most by unfold most;omega)]
 simp only [Option.bind_eq_bind,Option.bind_some]
 have key:=zaI c.Files (fun i rest=>∀ d:List TFile,d.length=i→zdH c (TConsole.mk [] 0 [] [] []) (TConsole.mk c.Input c.At c.Output d c.Trace) (i:Int)=some (TConsole.mk c.Input c.At c.Output (d++rest) c.Trace)) ?_ ?_
 ·have:=key [] rfl
  rw [show ((0:Nat):Int)=0 from rfl] at this
  rw [this];rfl
 ·intro d hd;rw [zdH.eq_1,if_neg (by omega)];simp
 ·intro i a rest hi hg hd ih d hdl
  have hm:a ∈ c.Files:=(List.getElem?_eq_some_iff.1 hg).2 ▸ List.getElem_mem hi
  have:=q5 a hm
  rw [zdH.eq_1,if_pos (by omega),zai,hg]
  simp only [Option.bind_eq_bind,Option.bind_some]
  rw [zbb (show a.Lines.length≤most by unfold most;omega)]
  simp only [Option.bind_some]
  rw [zck (by unfold most;simp only [List.length_cons,List.length_nil];omega)]
  simp only [Option.bind_some]
  rw [w64 (by omega) (by omega),show ((i:Int) + 1)=((i + 1:Nat):Int) by omega,ih (d++[a]) (by simp [hdl])]
  simp
theorem zyZ (x:THeap) (h:THeap.n x≤1048576) (hl:x.Objects.length≤1048576):zhQ x=some x:=by
 unfold zhQ
 have key:=zaI x.Objects (fun i rest=>∀ d:List TObject,d.length=i→zfp x (THeap.mk 0 []) (THeap.mk x.Next d) (i:Int)=some (THeap.mk x.Next (d++rest))) ?_ ?_
 ·have:=key [] rfl
  rw [show ((0:Nat):Int)=0 from rfl] at this
  rw [this];rfl
 ·intro d hd;rw [zfp.eq_1,if_neg (by omega)];simp
 ·intro i a rest hi hg hd ih d hdl
  have hm:a ∈ x.Objects:=(List.getElem?_eq_some_iff.1 hg).2 ▸ List.getElem_mem hi
  obtain ⟨hk,hv⟩:=zlt a (zBR h hm)
  rw [zfp.eq_1,if_pos (by omega),zai,hg]
  simp only [Option.bind_eq_bind,Option.bind_some]
  rw [zbb (show a.Keys.length≤most by unfold most;omega),zbb (show a.Vals.length≤most by unfold most;omega)]
  simp only [Option.bind_some]
  rw [zck (by unfold most;simp only [List.length_cons,List.length_nil];omega)]
  simp only [Option.bind_some]
  rw [w64 (by omega) (by omega),show ((i:Int) + 1)=((i + 1:Nat):Int) by omega,ih (d++[a]) (by simp [hdl])]
  simp
theorem zun (x0:TMemory) (h0:TMemory.n x0≤1048576) (ht:TMemory.n x0≤1048576):∃ r,zfi x0=some r∧zfd x0=some r∧TMemory.n r.1≤34359738368:=by
 obtain ⟨h1,h2,h3,h4,h5⟩:=zlz x0 h0
 unfold zfi zfd
 rw [zuf x0 h0,zue x0 h0]
 simp only [Option.bind_eq_bind,Option.bind_some]
 by_cases hM:zly x0
 ·rw [decide_eq_true hM,if_pos rfl,if_pos rfl]
  obtain ⟨m1,m2,m3,m4⟩:=hM
  have hv40:=m2.1.1
  have hrl:(zfD x0.Scope).length=x0.Scope.Vars.length:=by unfold zfD;rw [List.length_map]
  obtain ⟨ids,y,c1,c2,c3,c4,c5,c6⟩:=zpQ x0.Heap h1 h2 m1 (zfD x0.Scope) (by omega) m4
  have hil:ids.length≤40:=Nat.le_trans c1.len m1.2.1
  have hw:zhv x0.Scope.Vars ((zfD x0.Scope).map (mvV ids))=x0.Scope.Vars.map fun b=>TBinding.mk b.Name (mvV ids b.Value):=zmF _ _
  have hbn:lsum TBinding.n (x0.Scope.Vars.map fun b=>TBinding.mk b.Name (mvV ids b.Value))=lsum TBinding.n x0.Scope.Vars:=zoT (fun b=>TBinding.mk b.Name (mvV ids b.Value)) TBinding.n TBinding.n (fun b=>by simp only [TBinding.n,zyY]) _
  have hsn:TScope.n (TScope.mk (x0.Scope.Vars.map fun b=>TBinding.mk b.Name (mvV ids b.Value)) x0.Scope.Functions x0.Scope.Types)=TScope.n x0.Scope:=by
   simp only [TScope.n,List.length_map,hbn]
  have hso:=znJ x0.Scope m2 ids hil c2
  refine ⟨(TMemory.mk y (TScope.mk (x0.Scope.Vars.map fun b=>TBinding.mk b.Name (mvV ids b.Value)) x0.Scope.Functions x0.Scope.Types) x0.Console,0),?_,?_,?_⟩
  ·unfold zdR
   rw [ztj x0.Scope h5]
   simp only [Option.bind_eq_bind,Option.bind_some]
   rw [c4]
   simp only [Option.bind_some]
   rw [zpK x0.Scope _ h3 (by rw [List.length_map];omega),hw,zBT x0.Console h4]
   rfl
  ·unfold zgJ zkZ zht zfz
   rw [ztk x0.Scope h3 m2]
   simp only [Option.bind_eq_bind,Option.bind_some]
   rw [c3]
   simp only [Option.bind_some]
   rw [zyZ x0.Heap h1 h2,ztY x0.Scope h3,zBU x0.Console h4]
   simp only [Option.bind_some]
   rw [zdU x0.Scope h3,decide_eq_true m2]
   simp only [Option.bind_some,if_true]
   rw [if_pos (by rw [List.length_map];omega),zpL x0.Scope _ _ h3 (by rw [List.length_map];omega),hw]
   simp only [Option.bind_some]
   rw [zdU _ (by rw [hsn];exact h3),decide_eq_true hso]
   simp only [Option.bind_some,if_true]
  ·simp only [TMemory.n,THeap.n,hsn]
   omega
 ·rw [decide_eq_false hM]
  exact ⟨_,rfl,rfl,by decide⟩
end Go.Vx.CmZ
