/-
  Lists of names, functions, record types, scopes.
-/
import Derived.Test.YtdhpbbopmlppfaaGreatP2
set_option linter.unusedVariables false
set_option linter.unusedSimpArgs false
namespace Go.Vx.CmZ
set_option linter.unusedVariables false
open Classical
def zjD (l:List ByteArray):Prop:=(∀ x ∈ l,zaA x=true)∧l.Nodup
theorem zsQ (l:List ByteArray):(l.map bts).Nodup ↔ l.Nodup:=by
 constructor
 ·intro h
  induction l with
  | nil=>exact List.nodup_nil
  | cons a r ih =>
   rw [List.map_cons,List.nodup_cons] at h
   exact List.nodup_cons.2 ⟨fun hm=>h.1 (List.mem_map_of_mem hm),ih h.2⟩
 ·intro h
  induction l with
  | nil=>exact List.nodup_nil
  | cons a r ih =>
   rw [List.nodup_cons] at h
   rw [List.map_cons,List.nodup_cons]
   refine ⟨fun hm=>h.1 ?_,ih h.2⟩
   obtain ⟨b,hb,e⟩:=List.mem_map.1 hm
   rw [← zyJ e];exact hb
theorem zft (l:List ByteArray) (h:l.length≤1099511627776):zcz l=some (l.all zaA):=by
 unfold zcz
 rw [zbv l l.length (zcp l l l.length) zcK zaA (fun i=>zcp.eq_1 ..) rfl h (fun a _=>zcE a)]
 cases l.all zaA <;> rfl
theorem zmu (l:List ByteArray) (h:l.length≤1048576):∃ r,zdN l=some r∧(r.length=l.length ↔ l.Nodup):=by
 have hs:(zmc l).length=l.length:=by simp [zmc,zpo]
 refine ⟨ziJ (zmc l),?_,?_⟩
 ·simp only [zdN,zaY,zaJ,Option.bind_eq_bind]
  rw [zbb (show l.length≤most by unfold most;omega)]
  simp only [Option.bind_some]
  rw [zbb (show (zmc l).length≤most by rw [hs];unfold most;omega)]
  rfl
 ·have e:(zmc l).map bts=zpo (l.map bts):=by
   unfold zmc
   rw [List.map_map]
   have:(bts ∘ ofB)=id:=rfl
   rw [this,List.map_id]
  have:=zjM (l.map bts)
  rw [List.length_map,zsQ] at this
  simp only [ziJ,List.length_map,e]
  exact this
end Go.Vx.CmZ
