/-
  Lists of names, functions, record types, scopes.
-/
import Derived.Test.YtapepbhnleekbaaGreatDoorP2
set_option linter.unusedVariables false
set_option linter.unusedSimpArgs false
namespace Go.Vx.WvZ
open Classical
def zjQ (l:List ByteArray):Prop:=(∀ x ∈ l,zaI x=true)∧l.Nodup
theorem ztw (l:List ByteArray):(l.map bts).Nodup ↔ l.Nodup:=by
 constructor
 ·intro h
  induction l with
  | nil=>exact List.nodup_nil
  | cons a r ih =>
   rw [List.map_cons,List.nodup_cons] at h
   exact List.nodup_cons.2 ⟨fun hm=>h.1 (List.mem_map_of_mem hm),ih h.2⟩
 ·intro h
  induction l with
  | nil=>exact List.nodup_nil
  | cons a r ih =>
   rw [List.nodup_cons] at h
   rw [List.map_cons,List.nodup_cons]
   refine ⟨fun hm=>h.1 ?_,ih h.2⟩
   obtain ⟨b,hb,e⟩:=List.mem_map.1 hm
   rw [<- zzr e];exact hb
theorem zfu (l:List ByteArray) (h:l.length<=1099511627776):zcA l=some (l.all zaI):=by
 unfold zcA
 rw [zbu l l.length (zcr l l l.length) zco zaI (fun i=>zcr.eq_1 ..) rfl h (fun a _=>zcb a)]
 cases l.all zaI <;> rfl
theorem zmV (l:List ByteArray) (h:l.length<=1048576):∃ r,zdQ l=some r∧(r.length=l.length ↔ l.Nodup):=by
 have hs:(zmB l).length=l.length:=by simp [zmB,zpR]
 refine ⟨ziR (zmB l),?_,?_⟩
 ·simp only [zdQ,zbb,zaP,Option.bind_eq_bind]
  rw [zaJ (show l.length<=most by unfold most;omega)]
  simp only [Option.bind_some]
  rw [zaJ (show (zmB l).length<=most by rw [hs];unfold most;omega)]
  rfl
 ·have e:(zmB l).map bts=zpR (l.map bts):=by
   unfold zmB
   rw [List.map_map]
   have:(bts ∘ ofB)=id:=rfl
   rw [this,List.map_id]
  have:=zke (l.map bts)
  rw [List.length_map,ztw] at this
  simp only [ziR,List.length_map,e]
  exact this
end Go.Vx.WvZ

