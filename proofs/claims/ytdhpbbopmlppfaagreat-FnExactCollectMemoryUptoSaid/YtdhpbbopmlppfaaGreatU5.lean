/-
  A heap is collected, both sides.
-/
import Derived.Test.YtdhpbbopmlppfaaGreatU4
set_option linter.unusedVariables false
set_option linter.unusedSimpArgs false
namespace Go.Vx.CmZ
set_option linter.unusedVariables false
set_option linter.unusedSimpArgs false
open Classical
noncomputable def mvV (ids:List Int) (v:TValue):TValue:=if isR v then TValue.mk v.Kind v.Num v.Text (newI ids v.Ref) else v
theorem zyY (ids:List Int) (v:TValue):TValue.n (mvV ids v)=TValue.n v:=by unfold mvV;split <;> rfl
theorem zoT {α β:Type} (f:α→β) (g:β→Nat) (k:α→Nat) (h:∀ a,g (f a)=k a) (xs:List α):lsum g (xs.map f)=lsum k xs:=by
 induction xs with
 | nil=>simp [zbW]
 | cons a r ih=>rw [List.map_cons,zaf,zaf,ih,h]
theorem ztl {α:Type} (f:α→Nat) (xs:List α) {a:α} (h:a ∈ xs):f a≤lsum f xs:=by
 induction xs with
 | nil=>cases h
 | cons b r ih =>
  rw [zaf]
  rcases List.mem_cons.1 h with rfl|h
  ·omega
  ·have:=ih h;omega
theorem zpP {α:Type} (f:α→Nat) (xs:List α) (a:α):lsum f (xs++[a])=lsum f xs + f a:=by
 induction xs with
 | nil=>simp [zaf,zbW]
 | cons b r ih=>rw [List.cons_append,zaf,zaf,ih];omega
theorem zmD (ids:List Int) (v:TValue) (h:ids.length≤1048576):zgH ids v=some (mvV ids v):=by
 unfold zgH mvV
 rw [zBM,zug ids v.Ref h]
 simp only [Option.bind_eq_bind,Option.bind_some]
 by_cases q:isR v
 ·rw [if_pos (decide_eq_true q),if_pos q]
 ·rw [if_neg (by rw [decide_eq_false q];simp),if_neg q]
theorem zgQ (ids:List Int) (vs:List TValue) (h:ids.length≤1048576) (hv:vs.length≤1048576):zdv ids vs=some (vs.map (mvV ids)):=by
 unfold zdv
 have key:=zaI vs (fun i rest=>∀ c:List TValue,c.length=i→zdG ids vs c (i:Int)=some (c++rest.map (mvV ids))) ?_ ?_
 ·have:=key [] rfl
  rw [show ((0:Nat):Int)=0 from rfl] at this
  rw [this];rfl
 ·intro c hc;rw [zdG.eq_1,if_neg (by omega)];simp
 ·intro i a rest hi hg hd ih c hc
  rw [zdG.eq_1,if_pos (by omega),zai,hg]
  simp only [Option.bind_eq_bind,Option.bind_some,zmD ids a h]
  rw [zck (by unfold most;simp only [List.length_cons,List.length_nil];omega)]
  simp only [Option.bind_some]
  rw [w64 (by omega) (by omega),show ((i:Int) + 1)=((i + 1:Nat):Int) by omega,ih (c++[mvV ids a]) (by simp [hc])]
  simp
theorem zum {α:Type} (pre:List α) (b c:α) (r:List α):setN (pre++b::r) pre.length c=pre++c::r:=by
 unfold setN
 induction pre with
 | nil=>rfl
 | cons x p ih=>simp
theorem ziO (ids:List Int) (vs:List TValue) (h:ids.length≤1048576) (hv:vs.length≤1048576):zcD vs ids=some (vs.map (mvV ids)):=by
 unfold zcD zbg
 rw [zbb (show vs.length≤most by unfold most;omega)]
 simp only [Option.bind_eq_bind,Option.bind_some]
 have key:=zaI vs (fun i rest=>∀ pre:List TValue,pre.length=i→zcC vs ids vs.length (pre++rest) (i:Int)=some (pre++rest.map (mvV ids))) ?_ ?_
 ·have:=key [] rfl
  rw [show ((0:Nat):Int)=0 from rfl,List.nil_append] at this
  rw [this];rfl
 ·intro c hc;rw [zcC.eq_1,if_neg (by omega)];simp
 ·intro i a rest hi hg hd ih pre hp
  have e1:(pre++a::rest)[i]? = some a:=by rw [List.getElem?_append_right (by omega)];simp [hp]
  have hN:=zir ids a.Ref
  rw [zcC.eq_1,if_pos (by omega),zai,e1]
  simp only [Option.bind_eq_bind,Option.bind_some,zBN,zkv ids a.Ref h,Int.toNat_natCast]
  rw [w64 (n:=(i:Int) + 1) (by omega) (by omega),w64 (by omega) (by omega),show ((i:Int) + 1)=((i + 1:Nat):Int) by omega,show newI ids a.Ref - 1 + 1=newI ids a.Ref by omega]
  by_cases q:isR a
  ·have:=ih (pre++[mvV ids a]) (by simp [hp])
   rw [if_pos (decide_eq_true q),← hp,zum]
   rw [hp,show pre++TValue.mk a.Kind a.Num a.Text (newI ids a.Ref)::rest=(pre++[mvV ids a])++rest by simp [mvV,q],this]
   simp
  ·have:=ih (pre++[a]) (by simp [hp])
   rw [if_neg (by rw [decide_eq_false q];simp),show pre++a::rest=(pre++[a])++rest by simp,this]
   simp [mvV,q]
theorem zBR {x:THeap} (h:THeap.n x≤1048576) {o:TObject} (ho:o ∈ x.Objects):TObject.n o≤1048576:=by
 have:=ztl TObject.n x.Objects ho
 simp only [THeap.n] at h
 omega
theorem zmE (x:THeap) (h:THeap.n x≤1048576) (hx:zgl x) (roots:List TValue) (z:THeap) (nx:Int) (ids:List Int) (hg:Good x.Objects ids) :
  ∃ d,zcw x roots z ids (THeap.mk nx []) 0=some (THeap.mk nx d)∧zbS roots x z ids ids.length (THeap.mk nx []) 0=some (THeap.mk nx d)∧d.length≤40∧lsum TObject.n d≤41943040:=by
 have h40:=hx.2.1
 have hl:=hg.len
 have hS:=hx.2.2.2.2.1
 have key:=zaI ids (fun i rest=>∀ c:List TObject,c.length=i→lsum TObject.n c≤i * 1048576→∃ d,zcw x roots z ids (THeap.mk nx c) (i:Int)=some (THeap.mk nx d)∧zbS roots x z ids ids.length (THeap.mk nx c) (i:Int)=some (THeap.mk nx d)∧d.length≤40∧lsum TObject.n d≤41943040) ?_ ?_
 ·have:=key [] rfl (by simp [zbW])
  rwa [show ((0:Nat):Int)=0 from rfl] at this
 ·intro c hc hn
  exact ⟨c,by rw [zcw.eq_1,if_neg (by omega)],by rw [zbS.eq_1,if_neg (by omega)],by omega,by omega⟩
 ·intro i a rest hi hgi hd ih c hc hn
  have hm:a ∈ ids:=(List.getElem?_eq_some_iff.1 hgi).2 ▸ List.getElem_mem hi
  obtain ⟨o,ho⟩:=hg.2 a hm
  have hom:=List.mem_of_find?_eq_some ho
  obtain ⟨⟨p,p1,p2⟩,q,q1,q2⟩:=zBO x a (by omega) hS ho
  have hon:=zBR h hom
  obtain ⟨hk,hv⟩:=zlt o hon
  have hnew:TObject.n (TObject.mk ((i:Int) + 1) o.Kind o.Name o.Low (o.Keys.map (mvV ids)) (o.Vals.map (mvV ids)) (mvV ids o.Default))=TObject.n o:=by
   simp only [TObject.n,List.length_map,zoT (mvV ids) TValue.n TValue.n (zyY ids),zyY]
  obtain ⟨d,d1,d2,d3,d4⟩:=ih (c++[TObject.mk ((i:Int) + 1) o.Kind o.Name o.Low (o.Keys.map (mvV ids)) (o.Vals.map (mvV ids)) (mvV ids o.Default)]) (by simp [hc]) (by rw [zpP,hnew];omega)
  refine ⟨d,?_,?_,d3,d4⟩
  ·rw [zcw.eq_1,if_pos (by omega),zai,hgi]
   simp only [Option.bind_eq_bind,Option.bind_some]
   rw [p1]
   simp only [Option.bind_some]
   rw [p2]
   simp only [Option.bind_some]
   rw [zgQ ids _ (by omega) hk,zgQ ids _ (by omega) hv,zmD ids _ (by omega)]
   simp only [Option.bind_some]
   rw [w64 (by omega) (by omega),zck (by unfold most;simp only [List.length_cons,List.length_nil];omega)]
   simp only [Option.bind_some]
   rw [show ((i + 1:Nat):Int)=(i:Int) + 1 by omega] at d1
   exact d1
  ·rw [zbS.eq_1,if_pos (by omega),zai,hgi]
   simp only [Option.bind_eq_bind,Option.bind_some]
   rw [q1]
   simp only [Option.bind_some]
   rw [q2]
   simp only [Option.bind_some]
   rw [ziO ids _ (by omega) hk,ziO ids _ (by omega) hv,ziO ids _ (by omega) (by simp)]
   simp only [Option.bind_some,List.map_cons,List.map_nil,idxN]
   rw [w64 (by omega) (by omega)]
   simp only [List.getElem?_cons_zero,Option.bind_some]
   rw [zck (by unfold most;simp only [List.length_cons,List.length_nil];omega)]
   simp only [Option.bind_some]
   rw [show ((i + 1:Nat):Int)=(i:Int) + 1 by omega] at d2
   exact d2
theorem zpQ (x:THeap) (h:THeap.n x≤1048576) (hl:x.Objects.length≤1048576) (hx:zgl x) (roots:List TValue) (hr:roots.length≤400000) (hf:∀ v ∈ roots,FitP x.Objects v) :
  ∃ ids y,Good x.Objects ids∧(∀ v ∈ roots,isR v→v.Ref ∈ ids)∧zhP x roots=some (y,roots.map (mvV ids),0)∧zeh x roots=some (y,roots.map (mvV ids))∧y.Objects.length≤40∧lsum TObject.n y.Objects≤41943040:=by
 obtain ⟨ids,t1,t2,t3,t4⟩:=zul x hx roots hr hf
 have h40:=hx.2.1
 have hlen:=t3.len
 obtain ⟨d,d1,d2,d3,d4⟩:=zmE x h hx roots (THeap.mk 0 []) ids.length ids t3
 refine ⟨ids,THeap.mk ids.length d,t3,t4,?_,?_,d3,d4⟩
 ·unfold zhP zil zgI
  rw [zlv x h,zhw x roots hl (by omega),t1]
  simp only [Option.bind_eq_bind,Option.bind_some,decide_eq_true hx,decide_eq_true hf,if_true]
  rw [d1,zgQ ids roots (by omega) (by omega)];rfl
 ·unfold zeh
  rw [t2]
  simp only [Option.bind_eq_bind,Option.bind_some]
  rw [d2,ziO ids roots (by omega) (by omega)];rfl
end Go.Vx.CmZ
