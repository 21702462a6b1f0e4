/-
  The trace of a valid heap, both sides.
-/
import Derived.Test.YtdhpbbopmlppfaaGreatU3
set_option linter.unusedVariables false
set_option linter.unusedSimpArgs false
namespace Go.Vx.CmZ
set_option linter.unusedVariables false
set_option linter.unusedSimpArgs false
open Classical
theorem zpN (x:THeap) (r:Int) (h:x.Objects.length≤1048576) (hS:SrtI TObject.Id x.Objects):zca x r=some (match x.Objects.find? fun o=>decide (o.Id=r) with
  | some o=>((posQ (fun o:TObject=>decide (o.Id<r)) x.Objects:Nat):Int)
  | none=>-1):=by
 unfold zca zan
 have hc:∀ a:TObject,zbZ a r=some (if a.Id<r then -1 else if a.Id > r then 1 else 0):=fun a=>by
  simp only [zbZ,zcN,zcy,Option.bind_eq_bind,Option.bind_some,Bool.false_eq_true,if_false]
  by_cases q1:a.Id<r
  ·rw [if_pos q1,if_pos q1];rfl
  ·rw [if_neg q1,if_neg q1]
   by_cases q2:a.Id > r
   ·rw [if_pos q2,if_pos q2];rfl
   ·rw [if_neg q2,if_neg q2];rfl
 rw [zkq (fun o:TObject=>decide (o.Id<r)) x.Objects (by omega) (fun i a hg=>zjm hS i a hg) (zag x.Objects r x.Objects.length) ?_]
 ·simp only [Option.bind_eq_bind,Option.bind_some]
  rw [zgD hS r]
  by_cases hlt:posQ (fun o:TObject=>decide (o.Id<r)) x.Objects<x.Objects.length
  ·have hg:=List.getElem?_eq_getElem hlt
   have hp:=zjm hS (x:=r) _ _ hg
   have hnl:¬ x.Objects[posQ (fun o:TObject=>decide (o.Id<r)) x.Objects].Id<r:=fun e=>absurd (hp.1 (decide_eq_true e)) (Nat.lt_irrefl _)
   rw [if_pos (by omega),zai,hg]
   simp only [Option.bind_some,hc]
   rw [if_neg hnl]
   by_cases he:x.Objects[posQ (fun o:TObject=>decide (o.Id<r)) x.Objects].Id=r
   ·have hg':¬ x.Objects[posQ (fun o:TObject=>decide (o.Id<r)) x.Objects].Id > r:=by omega
    simp [hg',he]
   ·have hg':x.Objects[posQ (fun o:TObject=>decide (o.Id<r)) x.Objects].Id > r:=by omega
    simp [hg',he]
  ·rw [if_neg (by omega),List.getElem?_eq_none (by omega)];rfl
 ·intro lo hi
  rw [zag.eq_1]
  by_cases hlt:(lo:Int)<hi
  ·rw [if_pos hlt,if_pos hlt]
   simp only [hc,Option.bind_eq_bind,Option.bind_some]
   congr 1
   funext a
   by_cases q1:a.Id<r
   ·rw [if_pos q1,if_pos (by omega),if_pos (decide_eq_true q1)]
   ·rw [if_neg q1,if_neg (show ¬ decide (a.Id<r)=true by simpa using q1)]
    by_cases q2:a.Id > r
    ·rw [if_pos q2,if_neg (by omega)]
    ·rw [if_neg q2,if_neg (by omega)]
  ·rw [if_neg hlt,if_neg hlt]
theorem zBO (x:THeap) (r:Int) (h:x.Objects.length≤1048576) (hS:SrtI TObject.Id x.Objects) {o:TObject} (ho:x.Objects.find? (fun o=>decide (o.Id=r))=some o) :
  (∃ a,zeW x r=some a∧idx x.Objects a=some o)∧∃ a,zca x r=some a∧idx x.Objects a=some o:=by
 constructor
 ·rw [zkt x r h]
  rcases fidx (fun o:TObject=>decide (o.Id=r)) x.Objects with ⟨i,hi,e1,e2⟩|⟨e1,e2⟩
  ·rw [ho] at e2
   refine ⟨(i:Int),by rw [e1],?_⟩
   rw [zai,List.getElem?_eq_getElem hi,e2]
  ·rw [ho] at e2;cases e2
 ·rw [zpN x r h hS,ho]
  refine ⟨_,rfl,?_⟩
  rw [zai]
  rw [zgD hS r] at ho
  obtain ⟨o',g1,g2⟩:=Option.bind_eq_some_iff.1 ho
  split at g2
  ·cases g2;exact g1
  ·cases g2
def zfu:List TValue→List TValue→List TValue
 | k::ks,v::vs=>k::v::zfu ks vs
 | _,_=>[]
theorem zhY:∀ (ks vs:List TValue),(zfu ks vs).length≤2 * ks.length
 | [],_=>by simp [zfu]
 | k::ks,[]=>by simp [zfu]
 | k::ks,v::vs=>by have:=zhY ks vs;simp only [zfu,List.length_cons];omega
theorem zmC:∀ (ks vs:List TValue),∀ a ∈ zfu ks vs,a ∈ ks ∨ a ∈ vs
 | [],_,a,h=>by simp [zfu] at h
 | k::ks,[],a,h=>by simp [zfu] at h
 | k::ks,v::vs,a,h=>by
  simp only [zfu,List.mem_cons] at h
  rcases h with rfl|rfl|h
  ·exact .inl (List.mem_cons_self ..)
  ·exact .inr (List.mem_cons_self ..)
  ·exact (zmC ks vs a h).imp (List.mem_cons_of_mem _) (List.mem_cons_of_mem _)
theorem zky (ks vs:List TValue) (h:ks.length=vs.length) (hk:ks.length≤1048576) (L:List TValue→Int→Option (List TValue))
  (hL:∀ c i,L c i=if i<(ks.length:Int) then (idx ks i >>= fun a=>idx vs i >>= fun b=>app c [a,b] >>= fun d=>L d (IntKind.wrap .i64 (i + 1))) else some c):L [] 0=some (zfu ks vs):=by
 have key:=zaI ks (fun i rest=>∀ c:List TValue,c.length=2 * i→L c (i:Int)=some (c++zfu rest (vs.drop i))) ?_ ?_
 ·have:=key [] rfl
  rwa [show ((0:Nat):Int)=0 from rfl] at this
 ·intro c hc;rw [hL,if_neg (by omega)];simp [zfu]
 ·intro i a rest hi hg hd ih c hc
  have hi':i<vs.length:=by omega
  rw [hL,if_pos (by omega),zai,zai,hg,List.getElem?_eq_getElem hi']
  simp only [Option.bind_eq_bind,Option.bind_some]
  rw [zck (by unfold most;simp only [List.length_cons,List.length_nil];omega)]
  simp only [Option.bind_some]
  rw [w64 (by omega) (by omega),show ((i:Int) + 1)=((i + 1:Nat):Int) by omega,ih (c++[a,vs[i]]) (by simp [hc];omega)]
  rw [List.drop_eq_getElem_cons hi']
  simp [zfu]
def cont (o:TObject):List TValue:=if o.Kind=2 then zfu o.Keys o.Vals++[o.Default] else o.Vals
theorem zuj (o:TObject) (h:ObjP o):(cont o).length≤61:=by
 obtain ⟨_,h1,_,h2⟩:=h
 unfold cont
 split
 ·rename_i hk
  have:=((ztc o hk).1 h2).2.2.1
  have:=zhY o.Keys o.Vals
  simp only [List.length_append,List.length_cons,List.length_nil];omega
 ·omega
theorem zuk {os:List TObject} (o:TObject) (h:zhy os o):∀ v ∈ cont o,FitP os v:=by
 intro v hv
 unfold cont at hv
 split at hv
 ·rename_i hk
  rcases List.mem_append.1 hv with hv|hv
  ·exact (zmC _ _ v hv).elim (h.1 v) (h.2.1 v)
  ·simp only [List.mem_cons,List.not_mem_nil,or_false] at hv
   subst hv;exact h.2.2 hk
 ·exact h.2.1 v hv
theorem zBP (o:TObject) (h:ObjP o):zeD o=some (if o.Kind=2 then .inl (cont o) else .inr (cont o)):=by
 obtain ⟨_,h1,_,h2⟩:=h
 unfold zeD cont
 by_cases hk:o.Kind=2
 ·have hl:=((ztc o hk).1 h2).2.2.1
  have hp:=zhY o.Keys o.Vals
  rw [if_pos hk,if_pos hk,if_pos hk,zky o.Keys o.Vals hl (by omega) (fun c i=>zdg o c i) (fun c i=>zdg.eq_1 ..)]
  simp only [Option.bind_eq_bind,Option.bind_some]
  rw [zck (by unfold most;simp only [List.length_cons,List.length_nil];omega)];rfl
 ·rw [if_neg hk,if_neg hk,if_neg hk]
theorem zBQ (o:TObject) (h:ObjP o):zdQ o=some (if o.Kind=2 then .inl (cont o) else .inr (cont o)):=by
 obtain ⟨_,h1,_,h2⟩:=h
 unfold zdQ cont
 by_cases hk:o.Kind=2
 ·have hl:=((ztc o hk).1 h2).2.2.1
  have hp:=zhY o.Keys o.Vals
  rw [if_pos hk,if_pos hk,if_pos hk,zky o.Keys o.Vals hl (by omega) (fun c i=>zcr o o.Keys o.Keys.length c i) (fun c i=>zcr.eq_1 ..)]
  simp only [Option.bind_eq_bind,Option.bind_some]
  rw [zck (by unfold most;simp only [List.length_cons,List.length_nil];omega)];rfl
 ·rw [if_neg hk,if_neg hk,if_neg hk]
theorem zpO (x:THeap) (hx:zgl x) (roots:List TValue):∀ (n k:Nat) (s:List Int),x.Objects.length - k≤n→k≤s.length→Good x.Objects s →
  ∃ r,zcJ x roots s (k:Int)=some r∧zaT roots x (k:Int) s=some r∧Good x.Objects r∧∀ a ∈ s,a ∈ r:=by
 have h40:=hx.2.1
 have hS:=hx.2.2.2.2.1
 have base:∀ (k:Nat) (s:List Int),¬ k<s.length→Good x.Objects s→∃ r,zcJ x roots s (k:Int)=some r∧zaT roots x (k:Int) s=some r∧Good x.Objects r∧∀ a ∈ s,a ∈ r:=by
  intro k s hlt hg
  exact ⟨s,by rw [zcJ.eq_1,if_neg (by omega)],by rw [zaT.eq_1,if_neg (by omega)],hg,fun _ h=>h⟩
 intro n
 induction n with
 | zero =>
  intro k s hn hk hg
  have:=hg.len
  exact base k s (by omega) hg
 | succ n ih =>
  intro k s hn hk hg
  by_cases hlt:k<s.length
  ·have hl:=hg.len
   have he:=List.getElem?_eq_getElem hlt
   obtain ⟨o,ho⟩:=hg.2 _ (List.getElem_mem hlt)
   have hm:=List.mem_of_find?_eq_some ho
   obtain ⟨⟨a,a1,a2⟩,b,b1,b2⟩:=zBO x s[k] (by omega) hS ho
   have hO:=hx.2.2.1 o hm
   have hc:=zuj o hO
   obtain ⟨v1,v2,_⟩:=zfQ (cont o) s (zuk o (hx.2.2.2.2.2 o hm)) hg
   obtain ⟨r,r1,r2,r3,r4⟩:=ih (k + 1) (zhh s (cont o)) (by omega) (by have:=v1.len;have:s.length≤(zhh s (cont o)).length:=hg.1.length_le_of_subset v2;omega) v1
   refine ⟨r,?_,?_,r3,fun a ha=>r4 a (v2 a ha)⟩
   ·rw [zcJ.eq_1,if_pos (by omega),zai,he]
    simp only [Option.bind_eq_bind,Option.bind_some]
    rw [a1]
    simp only [Option.bind_some]
    rw [a2]
    simp only [Option.bind_some]
    rw [zBP o hO]
    simp only [Option.bind_some]
    rw [w64 (by omega) (by omega),show ((k:Int) + 1)=((k + 1:Nat):Int) by omega]
    split <;> rename_i q e <;> (split at e <;> cases e) <;> rw [zkw (cont o) (by omega) s (by omega) (by omega)] <;> exact r1
   ·rw [zaT.eq_1,if_pos (by omega),zai,he]
    simp only [Option.bind_eq_bind,Option.bind_some]
    rw [b1]
    simp only [Option.bind_some]
    rw [b2]
    simp only [Option.bind_some]
    rw [zBQ o hO]
    simp only [Option.bind_some]
    rw [w64 (by omega) (by omega),show ((k:Int) + 1)=((k + 1:Nat):Int) by omega]
    split <;> rename_i q e <;> (split at e <;> cases e) <;> rw [zkx (cont o) (by omega) s (by omega) (by omega)] <;> exact r2
  ·exact base k s hlt hg
theorem zul (x:THeap) (hx:zgl x) (roots:List TValue) (hr:roots.length≤400000) (hf:∀ v ∈ roots,FitP x.Objects v) :
  ∃ r,zhf x roots=some r∧zdo x roots=some r∧Good x.Objects r∧∀ v ∈ roots,isR v→v.Ref ∈ r:=by
 have hg0:Good x.Objects []:=⟨List.nodup_nil,fun _ h=>by cases h⟩
 obtain ⟨v1,v2,v3⟩:=zfQ roots [] hf hg0
 obtain ⟨r,r1,r2,r3,r4⟩:=zpO x hx roots _ 0 (zhh [] roots) (Nat.le_refl _) (Nat.zero_le _) v1
 rw [show ((0:Nat):Int)=0 from rfl] at r1 r2
 refine ⟨r,?_,?_,r3,fun v hv hq=>r4 _ (v3 v hv hq)⟩
 ·unfold zhf
  rw [zkw roots (by omega) [] (by simp) (by simp;omega)]
  simp only [Option.bind_eq_bind,Option.bind_some]
  rw [r1];rfl
 ·unfold zdo
  rw [zkx roots (by omega) [] (by simp) (by simp;omega)]
  simp only [Option.bind_eq_bind,Option.bind_some]
  rw [r2];rfl
end Go.Vx.CmZ
