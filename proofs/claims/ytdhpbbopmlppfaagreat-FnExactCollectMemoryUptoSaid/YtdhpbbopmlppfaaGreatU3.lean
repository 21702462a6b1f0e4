/-
  What is reached in a heap, both sides.
-/
import Derived.Test.YtdhpbbopmlppfaaGreatH4g
set_option linter.unusedVariables false
set_option linter.unusedSimpArgs false
namespace Go.Vx.CmZ
set_option linter.unusedVariables false
set_option linter.unusedSimpArgs false
open Classical
def isR (v:TValue):Prop:=4≤v.Kind∧v.Kind≤6
theorem zBM (v:TValue):zdZ v=some (decide (isR v)):=by
 unfold zdZ;rw [zgk];exact congrArg some (decide_eq_decide.2 Iff.rfl)
theorem zBN (v:TValue):zgf v.Kind=some (decide (isR v)):=by
 unfold zgf;rw [zcF];exact congrArg some (decide_eq_decide.2 Iff.rfl)
noncomputable def newI:List Int→Int→Int
 | [],_=>0
 | a::r,x=>if a=x then 1 else if newI r x=0 then 0 else newI r x + 1
theorem zir:∀ (l:List Int) (x:Int),0≤newI l x∧newI l x≤l.length
 | [],x=>by simp [newI]
 | a::r,x=>by
  have:=zir r x
  simp only [newI,List.length_cons]
  split
  ·omega
  ·split <;> omega
theorem zlA:∀ (l:List Int) (x:Int),x ∈ l ↔ 1≤newI l x
 | [],x=>by simp [newI]
 | a::r,x=>by
  have h1:=zlA r x
  have h2:=zir r x
  simp only [newI,List.mem_cons]
  by_cases e:a=x
  ·simp [e]
  ·rw [if_neg e]
   have e':¬ x=a:=fun q=>e q.symm
   split <;> simp only [e',false_or,h1] <;> omega
theorem zug (xs:List Int) (x:Int) (h:xs.length≤1048576):ziL xs x=some (newI xs x):=by
 unfold ziL
 have key:=zaI xs (fun i rest=>zge xs x (i:Int)=if newI rest x=0 then some (.inl ()) else some (.inr ((i:Int) + newI rest x))) ?_ ?_
 ·rw [show ((0:Nat):Int)=0 from rfl] at key
  rw [key]
  by_cases e:newI xs x=0
  ·rw [if_pos e,e];rfl
  ·rw [if_neg e];simp
 ·rw [zge.eq_1,if_neg (by omega)];simp [newI]
 ·intro i b rest hi hg hd ih
  rw [zge.eq_1,if_pos (by omega)]
  simp only [zai,hg,Option.bind_eq_bind,Option.bind_some]
  rw [w64 (by omega) (by omega),show ((i:Int) + 1)=((i + 1:Nat):Int) by omega,ih]
  have:=zir rest x
  by_cases e:b=x
  ·have hN:newI (b::rest) x=1:=by simp [newI,e]
   rw [if_pos e,hN,if_neg (by omega)];simp
  ·rw [if_neg e]
   by_cases e0:newI rest x=0
   ·have hN:newI (b::rest) x=0:=by simp [newI,e,e0]
    rw [hN,if_pos e0,if_pos rfl]
   ·have hN:newI (b::rest) x=newI rest x + 1:=by simp [newI,e,e0]
    rw [hN,if_neg e0,if_neg (by omega)]
    congr 2;omega
theorem zkv (xs:List Int) (x:Int) (h:xs.length≤1048576):zaG xs x=some (newI xs x - 1):=by
 unfold zaG
 have key:=zaI xs (fun i rest=>zaQ xs x xs.length (i:Int)=if newI rest x=0 then some (.inl ()) else some (.inr ((i:Int) + newI rest x - 1))) ?_ ?_
 ·rw [show ((0:Nat):Int)=0 from rfl] at key
  rw [key]
  by_cases e:newI xs x=0
  ·rw [if_pos e,e];rfl
  ·rw [if_neg e];simp
 ·rw [zaQ.eq_1,if_neg (by omega)];simp [newI]
 ·intro i b rest hi hg hd ih
  rw [zaQ.eq_1,if_pos (by omega)]
  simp only [zai,hg,Option.bind_eq_bind,Option.bind_some]
  rw [w64 (by omega) (by omega),show ((i:Int) + 1)=((i + 1:Nat):Int) by omega,ih]
  have:=zir rest x
  by_cases e:b=x
  ·have hN:newI (b::rest) x=1:=by simp [newI,e]
   rw [if_pos e.symm,hN,if_neg (by omega)];simp
  ·rw [if_neg (fun q=>e q.symm)]
   by_cases e0:newI rest x=0
   ·have hN:newI (b::rest) x=0:=by simp [newI,e,e0]
    rw [hN,if_pos e0,if_pos rfl]
   ·have hN:newI (b::rest) x=newI rest x + 1:=by simp [newI,e,e0]
    rw [hN,if_neg e0,if_neg (by omega)]
    congr 2;omega
theorem zuh (xs:List Int) (x:Int) (h:xs.length≤1048576):zaR xs x=some (decide (x ∈ xs)):=by
 unfold zaR
 rw [zkv xs x h]
 exact congrArg some (decide_eq_decide.2 (by rw [zlA];omega))
theorem zui (xs:List Int) (x:Int) (h:xs.length≤1048576):ziK xs x=some (decide (x ∈ xs)):=by
 unfold ziK
 have key:=zaI xs (fun i rest=>zgc xs x (i:Int)=if x ∈ rest then some (.inr true) else some (.inl ())) ?_ ?_
 ·rw [show ((0:Nat):Int)=0 from rfl] at key
  rw [key]
  by_cases e:x ∈ xs
  ·rw [if_pos e,decide_eq_true e];rfl
  ·rw [if_neg e,decide_eq_false e];rfl
 ·rw [zgc.eq_1,if_neg (by omega)];simp
 ·intro i b rest hi hg hd ih
  rw [zgc.eq_1,if_pos (by omega)]
  simp only [zai,hg,Option.bind_eq_bind,Option.bind_some]
  rw [w64 (by omega) (by omega),show ((i:Int) + 1)=((i + 1:Nat):Int) by omega,ih]
  by_cases e:b=x
  ·rw [if_pos e,if_pos (e ▸ List.mem_cons_self ..)]
  ·rw [if_neg e]
   have e':¬ x=b:=fun q=>e q.symm
   simp [e']
noncomputable def zhh:List Int→List TValue→List Int
 | s,[]=>s
 | s,v::r=>if isR v then (if v.Ref ∈ s then zhh s r else zhh (s++[v.Ref]) r) else zhh s r
theorem zkw (vs:List TValue) (hv:vs.length≤1048576) (s:List Int) (hs:s.length≤500000) (hsum:s.length + vs.length≤1000000):zeR s vs=some (zhh s vs):=by
 unfold zeR
 have key:=zaI vs (fun i rest=>∀ s:List Int,s.length + rest.length≤1000000→zcI vs s (i:Int)=some (zhh s rest)) ?_ ?_
 ·have:=key s hsum
  rw [show ((0:Nat):Int)=0 from rfl] at this
  rw [this];rfl
 ·intro s _;rw [zcI.eq_1,if_neg (by omega)];rfl
 ·intro i a rest hi hg hd ih s hl
  simp only [List.length_cons] at hl
  rw [zcI.eq_1,if_pos (by omega)]
  unfold zgd
  simp only [zai,hg,zBM,zui s a.Ref (by omega),Option.bind_eq_bind,Option.bind_some,zhh]
  rw [w64 (by omega) (by omega),show ((i:Int) + 1)=((i + 1:Nat):Int) by omega,zck (by unfold most;simp only [List.length_cons,List.length_nil];omega)]
  simp only [Option.bind_some]
  by_cases h1:isR a
  ·rw [if_pos (decide_eq_true h1),if_pos h1]
   by_cases h2:a.Ref ∈ s
   ·rw [if_pos (decide_eq_true h2),if_pos h2,ih s (by omega)]
   ·rw [if_neg (by rw [decide_eq_false h2];simp),if_neg h2,ih _ (by simp only [List.length_append,List.length_cons,List.length_nil];omega)]
  ·rw [if_neg (by rw [decide_eq_false h1];simp),if_neg h1,ih s (by omega)]
theorem zkx (vs:List TValue) (hv:vs.length≤1048576) (s:List Int) (hs:s.length≤500000) (hsum:s.length + vs.length≤1000000):zbf vs s=some (zhh s vs):=by
 unfold zbf
 have key:=zaI vs (fun i rest=>∀ s:List Int,s.length + rest.length≤1000000→zaH vs vs vs.length (i:Int) s=some (zhh s rest)) ?_ ?_
 ·have:=key s hsum
  rw [show ((0:Nat):Int)=0 from rfl] at this
  rw [this];rfl
 ·intro s _;rw [zaH.eq_1,if_neg (by omega)];rfl
 ·intro i a rest hi hg hd ih s hl
  simp only [List.length_cons] at hl
  rw [zaH.eq_1,if_pos (by omega)]
  unfold zcB
  simp only [zai,hg,zBN,zuh s a.Ref (by omega),Option.bind_eq_bind,Option.bind_some,zhh]
  rw [w64 (by omega) (by omega),show ((i:Int) + 1)=((i + 1:Nat):Int) by omega,zck (by unfold most;simp only [List.length_cons,List.length_nil];omega)]
  simp only [Option.bind_some]
  by_cases h1:isR a
  ·rw [if_pos (decide_eq_true h1),if_pos h1]
   by_cases h2:a.Ref ∈ s
   ·rw [if_pos (decide_eq_true h2),if_pos h2,ih s (by omega)]
   ·rw [if_neg (by rw [decide_eq_false h2];simp),if_neg h2,ih _ (by simp only [List.length_append,List.length_cons,List.length_nil];omega)]
  ·rw [if_neg (by rw [decide_eq_false h1];simp),if_neg h1,ih s (by omega)]
def Good (os:List TObject) (s:List Int):Prop:=s.Nodup∧∀ r ∈ s,∃ o,os.find? (fun o=>decide (o.Id=r))=some o
theorem Good.len {os:List TObject} {s:List Int} (h:Good os s):s.length≤os.length:=by
 have:s ⊆ os.map TObject.Id:=by
  intro r hr
  obtain ⟨o,ho⟩:=h.2 r hr
  have h1:=List.mem_of_find?_eq_some ho
  have h2:=List.find?_some ho
  exact List.mem_map.2 ⟨o,h1,by simpa using h2⟩
 simpa using h.1.length_le_of_subset this
theorem zfQ {os:List TObject}:∀ (vs:List TValue) (s:List Int),(∀ v ∈ vs,FitP os v)→Good os s→Good os (zhh s vs)∧(∀ r ∈ s,r ∈ zhh s vs)∧∀ v ∈ vs,isR v→v.Ref ∈ zhh s vs
 | [],s,_,h=>⟨h,fun _ h=>h,fun _ h=>by cases h⟩
 | v::r,s,hf,h=>by
  have hr:=fun w hw=>hf w (List.mem_cons_of_mem _ hw)
  simp only [zhh]
  by_cases h1:isR v
  ·rw [if_pos h1]
   by_cases h2:v.Ref ∈ s
   ·rw [if_pos h2]
    obtain ⟨a1,a2,a3⟩:=zfQ r s hr h
    refine ⟨a1,a2,fun w hw hq=>?_⟩
    rcases List.mem_cons.1 hw with rfl|hw
    ·exact a2 _ h2
    ·exact a3 w hw hq
   ·rw [if_neg h2]
    have hg:Good os (s++[v.Ref]):=by
     refine ⟨?_,fun x hx=>?_⟩
     ·rw [List.nodup_append]
      refine ⟨h.1,by simp,fun a ha b hb e=>?_⟩
      simp only [List.mem_cons,List.not_mem_nil,or_false] at hb
      subst hb;subst e;exact h2 ha
     ·rcases List.mem_append.1 hx with hx|hx
      ·exact h.2 x hx
      ·simp only [List.mem_cons,List.not_mem_nil,or_false] at hx
       subst hx
       obtain ⟨o,ho,_⟩:=(hf v (List.mem_cons_self ..)).2 h1
       exact ⟨o,ho⟩
    obtain ⟨a1,a2,a3⟩:=zfQ r _ hr hg
    refine ⟨a1,fun x hx=>a2 x (List.mem_append_left _ hx),fun w hw hq=>?_⟩
    rcases List.mem_cons.1 hw with rfl|hw
    ·exact a2 _ (List.mem_append_right _ (List.mem_cons_self ..))
    ·exact a3 w hw hq
  ·rw [if_neg h1]
   obtain ⟨a1,a2,a3⟩:=zfQ r s hr h
   refine ⟨a1,a2,fun w hw hq=>?_⟩
   rcases List.mem_cons.1 hw with rfl|hw
   ·exact absurd hq h1
   ·exact a3 w hw hq
end Go.Vx.CmZ
