/-
  An evaluator for the model's code on values, and the proof that what it tells of a call the program does; part 5.
-/
import Derived.Test.YtapepbhnleekbaaGreatDoorVxC
import Derived.Shelf.Sort.Plain
import Derived.Shelf.Slices.In.SortNone
import Derived.Shelf.Slices.CompactS
import Derived.Test.YtapepbhnleekbaaGreatDoorVxD
set_option linter.unusedVariables false
set_option linter.unusedSimpArgs false
namespace Go.Vx
open Go.Shelf Go.Sort Go.Proofs
def strD (l:List UInt8):D:=.str ⟨l.toArray⟩
def zlg:List D->Option (List (List UInt8))
 | []=>some []
 | .str s::r=>(zlg r).map fun l=>s.data.toList::l
 | _::_=>none
def zpP:List D->Option (D × List D)
 | [.sl true 1 xs]=>(zlg xs).bind fun ss=>if ss.length<=most then some (.tup [],[.sl true 1 ((ss.mergeSort fun x y=>decide (x<=y)).map strD)]) else none
 | _=>none
def zgY:List D->Option (D × List D)
 | [.sl true 1 xs]=>(zlg xs).bind fun ss=>if ss.length<=most then some (.sl true 1 ((Lib.compact ss).map strD),[]) else none
 | _=>none
section
variable {P:Program} {w:World} {I:Nat->Prop} {ι:List Nat}
theorem zgC:∀ {xs:List D} {ss:List (List UInt8)},zlg xs=some ss->xs.length=ss.length
 | [],ss,h=>by cases h;rfl
 | .str s::r,ss,h=>by
  simp only [zlg] at h
  obtain ⟨l,h1,rfl⟩:=Option.map_eq_some_iff.1 h
  simp [zgC h1]
theorem zlh:∀ {xs:List D} {ss:List (List UInt8)} {vs:List Value} {F:List Nat},zlg xs=some ss->RepL w I ι vs (zak xs) F->vs=ss.map encStr∧F=[]
 | [],ss,vs,F,h,hr=>by cases h;cases hr;exact ⟨rfl,rfl⟩
 | .str s::r,ss,vs,F,h,hr=>by
  simp only [zlg] at h
  obtain ⟨l,h1,rfl⟩:=Option.map_eq_some_iff.1 h
  cases hr with
  | cons _ v d F1 vs' ds' G h2 h3 =>
   obtain ⟨e1,e2⟩:=zlh h1 h3
   cases h2
   exact ⟨by rw [e1];simp [encStr],by rw [e2];rfl⟩
theorem zoK:∀ (ts:List (List UInt8)),RepL w I ι (ts.map encStr) (zak (ts.map strD)) []
 | []=>.nil _
 | t::r=>.cons _ _ _ [] _ _ [] (.str ..) (zoK r)
theorem zmA {b o:Nat} {c:Array Value} {E:TypeId} {ss:List (List UInt8)} (hb:w.heap[b]? = some (.cells c E (0,0))) (hc:zaB w b o (ss.map encStr)):Holds encStr w b o ss.toArray:=by
 intro j hj
 have hj':j<ss.length:=by simpa using hj
 refine ⟨?_,by simp [World.frozen?,hb]⟩
 have:=hc j (encStr ss[j]) (by simp [hj'])
 rw [this]
 simp [hj']
theorem zoL {b o n:Nat} {os:Array Obj} {cur:Array Value} {e:TypeId} {fr:Nat × Nat} (d:Array (List UInt8)) (hb:w.heap[b]? = some (.cells cur e fr)) :
  (grow (putRow encStr (Sort.ahead w n) b o d) os).heap[b]? = some (.cells (putCells encStr o d cur) e fr):=by
 have hg:b<w.heap.size:=(Array.getElem?_eq_some_iff.1 hb).1
 rw [heap_grow_old _ _ (by simpa using hg)]
 simp [putRow,mapBlock,Sort.ahead,Array.getElem?_modify,hb,onCells]
theorem zrs {b o n:Nat} {os:Array Obj} (d:Array (List UInt8)):Ext (· = b) w (grow (putRow encStr (Sort.ahead w n) b o d) os):=by
 refine ⟨rfl,rfl,rfl,by simp [grow,putRow,mapBlock,Sort.ahead],fun k hk hne=>?_⟩
 rw [heap_grow_old _ _ (by simpa using hk)]
 have:b ≠ k:=fun e=>hne e.symm
 simp [putRow,mapBlock,Sort.ahead,Array.getElem?_modify,this]
theorem zrt {b o n cap m:Nat} {os:Array Obj} {cur:Array Value} {e:TypeId} {ts us:List (List UInt8)} (hb:w.heap[b]? = some (.cells cur e (0,0))) (hs:o + cap<=cur.size) (hm:m=ts.length) (hl:(ts++us).length<=cap) {J:Nat->Prop} {κ:List Nat} :
  Rep (grow (putRow encStr (Sort.ahead w n) b o (ts++us).toArray) os) J κ (.slice (some ⟨b,o,none⟩) m cap) (.sl true 1 (ts.map strD)) [b]:=by
 rw [List.length_append] at hl
 refine .own _ _ _ _ _ _ _ (ts.map encStr) e _ [] (by simp [hm]) (zoL _ hb) (by simpa [putCells] using hs) (by omega) ?_ ?_ (zoK ts) ?_
 ·intro j v hj
  obtain ⟨t,ht,rfl⟩:∃ t,ts[j]? = some t∧encStr t=v:=by simpa using hj
  have hlt:=getElem?_lt ht
  have e1:(ts++us)[j]? = some t:=by rw [List.getElem?_append_left hlt];exact ht
  simp only [World.cell?,zoL _ hb,Option.isSome_none,Bool.false_eq_true,if_false]
  rw [Array.getElem?_eq_getElem (by simp [putCells];omega)]
  simp only [putCells,Array.getElem_mapIdx,List.size_toArray,List.length_append]
  rw [if_pos (by omega)]
  have e2:o + j - o=j:=by omega
  rw [e2]
  have e3:(ts++us).toArray[j]? = some t:=by simpa using e1
  simp [getElem!_def,e3]
 ·intro v hv
  obtain ⟨t,_,rfl⟩:=List.mem_map.1 hv
  rfl
 ·intro x hx
  obtain ⟨t,_,rfl⟩:=List.mem_map.1 hx
  rfl
theorem zji.ext {w2:World} {S:Nat->Prop} {sto:List (List D)} {Gs:List (List Nat)} (h:zji w I ι sto Gs) (he:Ext S w w2) (hI:∀ b,I b->b<w.heap.size∧¬ S b) (hG:∀ b ∈ Gs.flatten,b<w.heap.size∧¬ S b):zji w2 I ι sto Gs:=by
 refine ⟨h.1,h.2.1,fun r cs hr=>?_⟩
 refine zhC.frame (fun _ h=>h) (fun b hb=>he.block b (hI b hb).1 (hI b hb).2) (h.2.2 r cs hr) ?_
 intro b hb
 have hlt:r<Gs.length:=by rw [h.1];exact getElem?_lt hr
 have:b ∈ Gs.flatten:=by
  refine List.mem_flatten.2 ⟨Gs.getD r [],?_,hb⟩
  rw [List.getD_eq_getElem?_getD,List.getElem?_eq_getElem hlt]
  exact List.getElem_mem hlt
 exact he.block b (hG b this).1 (hG b this).2
theorem zzq {ρ:Ren} (Ly:Lays.n190 P ρ) {args:List D} {r:D × List D} (h:zpP args=some r) (sto:List (List D)):zeq P [.mu] (ρ.f 190) args sto (r.1,r.2,sto):=by
 unfold zpP at h
 split at h
 ·rename_i xs
  obtain ⟨ss,h1,h2⟩:=Option.bind_eq_some_iff.1 h
  split at h2
  ·rename_i hm
   cases h2
   have hlen:=zgC h1
   intro w I ι vs Fs Gs hr hs hn hap hI _
   cases hr with
   | cons v d F vs' ds' Fs' hv hnil =>
    cases hnil
    have none:∀ p cap,v=.slice p 0 cap->xs=[]->Calls P (ρ.f 190) #[v] w fun e w2=>∃ u,e=.returned u∧zqH w I ι ([F].flatten++Gs.flatten) [.mu] [v] (.tup [],[.sl true 1 ((ss.mergeSort fun x y=>decide (x<=y)).map strD)],sto) u w2:=by
     intro p cap hv0 hx
     subst hx
     obtain rfl:ss=[]:=by cases h1;rfl
     rw [hv0] at hv ⊢
     refine (Any.slices_Sort_string_none Ly p cap w).mono ?_
     rintro e w2 ⟨rfl,rfl⟩
     refine ⟨_,rfl,I,ι,[],[F],Gs,Ext.refl _ _,fun _ h=>h,fun b hb=>⟨hI b hb,.inl hb⟩,.tup _ [] [] [] (.nil _),?_,hs,fun _ _ h=>h,?_,?_⟩
     ·exact .cons _ _ _ _ _ _ (by simpa using hv) .nil
     ·simpa using hn
     ·intro b hb
      have:=hap b (by simpa using hb)
      exact ⟨this.1,.inl (by simpa using hb),this.2⟩
    cases hv with
    | nil=>exact none _ _ rfl rfl
    | emp=>exact none _ _ rfl rfl
    | own _ b o n cap z _ us E c F1 q1 q2 q3 q4 q5 q6 q7 q8 =>
     obtain ⟨rfl,rfl⟩:=zlh h1 q7
     by_cases hx:xs=[]
     ·subst hx
      exact none (some ⟨b,o,Option.none⟩) cap (by rw [q1];rfl) rfl
     ·subst q1
      rw [hlen]
      have hb:b<w.heap.size:=(Array.getElem?_eq_some_iff.1 q2).1
      have hsz:ss.length<4611686018427387904:=by unfold most at hm;omega
      refine (Any.slices_Sort_string Ly b o cap ss w (zmA q2 q5) hb hsz).mono ?_
      rintro e w2 ⟨rfl,k,os,rfl⟩
      have hns:([b]++Gs.flatten).Nodup:=by simpa using hn
      have hnb:∀ x ∈ Gs.flatten,x ≠ b:=by
       intro x hx e
       exact (List.nodup_append.1 hns).2.2 b (by simp) x hx e.symm
      have hbI:¬ I b:=(hap b (by simp)).1
      have hext:=zrs (w:=w) (b:=b) (o:=o) (n:=k) (os:=os) (ss.mergeSort fun x y=>decide (x<=y)).toArray
      have hgr:∀ x,x<w.heap.size->x<(grow (putRow encStr (Sort.ahead w k) b o (ss.mergeSort fun x y=>decide (x<=y)).toArray) os).heap.size:=fun x hx=>Nat.lt_of_lt_of_le hx hext.size
      refine ⟨_,rfl,I,ι,[],[[b]],Gs,hext.mono (fun x hx=>by subst hx;simp),fun _ h=>h,fun x hx=>⟨hgr x (hI x hx),.inl hx⟩,.tup _ [] [] [] (.nil _),?_,?_,fun _ _ h=>h,?_,?_⟩
      ·refine .cons _ _ _ _ _ _ ?_ .nil
       have:=zrt (w:=w) (n:=k) (os:=os) (m:=ss.length) (ts:=ss.mergeSort fun x y=>decide (x<=y)) (us:=[]) (J:=I) (κ:=ι) q2 (by omega) (by simp) (by simp;omega)
       simpa using this
      ·exact hs.ext hext (fun x hx=>⟨hI x hx,fun e=>hbI (e ▸ hx)⟩) (fun x hx=>⟨(hap x (by simp [List.mem_flatten.1 hx] <;> exact .inr (by simpa using hx))).2,hnb x hx⟩)
      ·simpa using hns
      ·intro x hx
       have hx':x ∈ [b]++Gs.flatten:=by simpa using hx
       have:=hap x (by simpa using hx')
       exact ⟨this.1,.inl (by simpa using hx'),hgr x this.2⟩
  ·cases h2
 ·cases h
theorem zpQ {ρ:Ren} (Ly:Lays.n194 P ρ) {args:List D} {r:D × List D} (h:zgY args=some r) (sto:List (List D)):zeq P [.mv] (ρ.f 194) args sto (r.1,r.2,sto):=by
 unfold zgY at h
 split at h
 ·rename_i xs
  obtain ⟨ss,h1,h2⟩:=Option.bind_eq_some_iff.1 h
  split at h2
  ·rename_i hm
   cases h2
   have hlen:=zgC h1
   intro w I ι vs Fs Gs hr hs hn hap hI _
   cases hr with
   | cons v d F vs' ds' Fs' hv hnil =>
    cases hnil
    have none:∀ p cap,v=.slice p 0 cap->xs=[]->Calls P (ρ.f 194) #[v] w fun e w2=>∃ u,e=.returned u∧zqH w I ι ([F].flatten++Gs.flatten) [.mv] [v] (.sl true 1 ((Lib.compact ss).map strD),[],sto) u w2:=by
     intro p cap hv0 hx
     subst hx
     obtain rfl:ss=[]:=by cases h1;rfl
     rw [hv0] at hv ⊢
     refine (Any.slices_Compact_string_empty Ly p cap w).mono ?_
     rintro e w2 ⟨rfl,rfl⟩
     refine ⟨_,rfl,I,ι,F,[],Gs,Ext.refl _ _,fun _ h=>h,fun b hb=>⟨hI b hb,.inl hb⟩,hv,.nil,hs,fun _ _ h=>h,?_,?_⟩
     ·simpa using hn
     ·intro b hb
      have:=hap b (by simpa using hb)
      exact ⟨this.1,.inl (by simpa using hb),this.2⟩
    cases hv with
    | nil=>exact none _ _ rfl rfl
    | emp=>exact none _ _ rfl rfl
    | own _ b o n cap z _ us E c F1 q1 q2 q3 q4 q5 q6 q7 q8 =>
     obtain ⟨rfl,rfl⟩:=zlh h1 q7
     by_cases hx:xs=[]
     ·subst hx
      exact none (some ⟨b,o,Option.none⟩) cap (by rw [q1];rfl) rfl
     ·subst q1
      rw [hlen] at q4 ⊢
      refine (Any.slices_Compact_string Ly b o cap ss w (zmA q2 q5) (by unfold most at hm;omega) q4).mono ?_
      rintro e w2 ⟨rfl,k,rfl⟩
      have hcl:(Lib.compact ss).length<=ss.length:=by
       unfold Lib.compact Lib.compactUpTo
       rw [List.length_map]
       exact Nat.le_trans (List.length_filter_le ..) (by simp)
      have hns:([b]++Gs.flatten).Nodup:=by simpa using hn
      have hnb:∀ x ∈ Gs.flatten,x ≠ b:=by
       intro x hx e
       exact (List.nodup_append.1 hns).2.2 b (by simp) x hx e.symm
      have hbI:¬ I b:=(hap b (by simp)).1
      have hext:=zrs (w:=w) (b:=b) (o:=o) (n:=k) (os := #[]) (Lib.compact ss++List.replicate (ss.length - (Lib.compact ss).length) []).toArray
      have hrow:=zrt (w:=w) (n:=k) (os := #[]) (m:=(Lib.compact ss).length) (ts:=Lib.compact ss) (us:=List.replicate (ss.length - (Lib.compact ss).length) []) (b:=b) (o:=o) (cap:=cap) (cur:=c) (J:=I) (κ:=ι) q2 (by omega) rfl (by simp;omega)
      rw [grow_empty] at hext hrow
      have hgr:∀ x,x<w.heap.size->x<(putRow encStr (Sort.ahead w k) b o (Lib.compact ss++List.replicate (ss.length - (Lib.compact ss).length) []).toArray).heap.size:=fun x hx=>Nat.lt_of_lt_of_le hx hext.size
      refine ⟨_,rfl,I,ι,[b],[],Gs,hext.mono (fun x hx=>by subst hx;simp),fun _ h=>h,fun x hx=>⟨hgr x (hI x hx),.inl hx⟩,hrow,.nil,?_,fun _ _ h=>h,?_,?_⟩
      ·exact hs.ext hext (fun x hx=>⟨hI x hx,fun e=>hbI (e ▸ hx)⟩) (fun x hx=>⟨(hap x (by simp [List.mem_flatten.1 hx] <;> exact .inr (by simpa using hx))).2,hnb x hx⟩)
      ·simpa using hns
      ·intro x hx
       have hx':x ∈ [b]++Gs.flatten:=by simpa using hx
       have:=hap x (by simpa using hx')
       exact ⟨this.1,.inl (by simpa using hx'),hgr x this.2⟩
  ·cases h2
 ·cases h
end
end Go.Vx
namespace Go.Vx
open Go.Lib
def zpR (l:List (List UInt8)):List (List UInt8):=l.mergeSort fun x y=>decide (x<=y)
theorem zhH (l:List (List UInt8)) (hs:l.Pairwise fun a b=>a<=b):(Lib.compact l).length=l.length ↔ l.Nodup:=by
 have hk:(Lib.compact l).length=l.length ↔ ∀ j,j<l.length->keeps l.toArray j=true:=by
  unfold Lib.compact compactUpTo
  rw [List.length_map]
  constructor
  ·intro h j hj
   have h2:((List.range l.length).filter (keeps l.toArray)).length=(List.range l.length).length:=by rw [List.length_range];exact h
   rw [List.length_filter_eq_length_iff] at h2
   exact h2 j (by simpa using hj)
  ·intro h
   have h2:((List.range l.length).filter (keeps l.toArray)).length=(List.range l.length).length:=List.length_filter_eq_length_iff.2 fun j hj=>h j (by simpa using hj)
   rw [List.length_range] at h2
   exact h2
 rw [hk]
 have hg:∀ j (hj:j<l.length),l.toArray[j]! = l[j]:=fun j hj=>by simp [hj]
 rw [List.pairwise_iff_getElem] at hs
 constructor
 ·intro h
  unfold List.Nodup
  rw [List.pairwise_iff_getElem]
  intro i j hi hj hij e
  have h1:=h (i + 1) (by omega)
  simp only [keeps,decide_eq_true_eq] at h1
  rcases h1 with h1|h1
  ·omega
  ·rw [hg _ (by omega),Nat.add_sub_cancel,hg _ hi] at h1
   have a1:=hs i (i + 1) hi (by omega) (by omega)
   by_cases hj1:i + 1=j
   ·subst hj1;exact h1 e.symm
   ·have a2:=hs (i + 1) j (by omega) hj (by omega)
    rw [<- e] at a2
    exact h1 (List.le_antisymm a2 a1)
 ·intro h j hj
  unfold List.Nodup at h
  rw [List.pairwise_iff_getElem] at h
  simp only [keeps,decide_eq_true_eq]
  by_cases h0:j=0
  ·exact .inl h0
  ·refine .inr ?_
   rw [hg _ hj,hg _ (by omega)]
   exact fun e=>h (j - 1) j (by omega) hj (by omega) e.symm
theorem zke (l:List (List UInt8)):(Lib.compact (zpR l)).length=l.length ↔ l.Nodup:=by
 have tr:∀ a b c:List UInt8,decide (a<=b)=true->decide (b<=c)=true->decide (a<=c)=true:=fun a b c h1 h2=>by simp only [decide_eq_true_eq] at *;exact List.le_trans h1 h2
 have to:∀ a b:List UInt8,(decide (a<=b) || decide (b<=a))=true:=fun a b=>by simp only [Bool.or_eq_true,decide_eq_true_eq];exact List.le_total a b
 have hp:(zpR l).Perm l:=List.mergeSort_perm l _
 have hs:(zpR l).Pairwise fun a b=>a<=b:=(List.pairwise_mergeSort tr to l).imp fun h=>by simpa using h
 rw [<- hp.length_eq,zhH _ hs,hp.nodup_iff]
end Go.Vx
namespace Go.Vx
def bts (s:ByteArray):List UInt8:=s.data.toList
def ofB (l:List UInt8):ByteArray:=⟨l.toArray⟩
theorem zru (s:ByteArray):ofB (bts s)=s:=rfl
theorem zzr {a b:ByteArray} (h:bts a=bts b):a=b:=by rw [<- zru a,<- zru b,h]
def zmB (l:List ByteArray):List ByteArray:=(zpR (l.map bts)).map ofB
def ziR (l:List ByteArray):List ByteArray:=(Lib.compact (l.map bts)).map ofB
theorem zmC (l:List ByteArray):zlg (l.map D.str)=some (l.map bts):=by
 induction l with
 | nil=>rfl
 | cons x r ih=>simp only [List.map_cons,zlg,ih,Option.map_some,bts]
theorem zoM (l:List (List UInt8)):l.map strD=(l.map ofB).map D.str:=by rw [List.map_map];rfl
theorem znA (l:List ByteArray) (h:l.length<=most):zpP [.sl true 1 (l.map D.str)]=some (.tup [],[.sl true 1 ((zmB l).map D.str)]):=by
 simp only [zpP,zmC,Option.bind_some,List.length_map,h,if_true]
 rw [zoM];rfl
theorem zkf (l:List ByteArray) (h:l.length<=most):zgY [.sl true 1 (l.map D.str)]=some (.sl true 1 ((ziR l).map D.str),[]):=by
 simp only [zgY,zmC,Option.bind_some,List.length_map,h,if_true]
 rw [zoM];rfl
end Go.Vx

