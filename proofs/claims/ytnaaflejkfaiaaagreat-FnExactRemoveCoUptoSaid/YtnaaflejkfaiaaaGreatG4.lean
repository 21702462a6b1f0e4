/-
  References of expressions, suspended cursors: both sides answer the same.
-/
import Derived.Test.YtnaaflejkfaiaaaGreatG3
import Derived.Test.YtnaaflejkfaiaaaGreatH4g
set_option linter.unusedVariables false
set_option linter.unusedSimpArgs false
namespace Go.Vx.RmZ
open Classical
theorem ztP {α:Type} (xs:List α) (n:Int) (L1 L2:Int->Option (Unit ⊕ Bool)) (P1 P2:α->Option Bool)
  (h1:∀ i,L1 i=if i<n then (idx xs i >>= fun a=>P1 a >>= fun r=>if r=true then L1 (IntKind.wrap .i64 (i + 1)) else some (.inr false)) else some (.inl ()))
  (h2:∀ i,L2 i=if i<n then (idx xs i >>= fun a=>P2 a >>= fun r=>if r=true then L2 (IntKind.wrap .i64 (i + 1)) else some (.inr false)) else some (.inl ()))
  (hn:n=xs.length) (hs:xs.length<=1099511627776) (hp:∀ a ∈ xs,∃ b,P1 a=some b∧P2 a=some b):∃ b:Bool,(L1 0=if b=true then some (.inl ()) else some (.inr false))∧(L2 0=if b=true then some (.inl ()) else some (.inr false)):=by
 refine ⟨xs.all fun a=>(P1 a).getD false,zdQ xs n L1 P1 _ h1 hn hs fun a ha=>?_,zdQ xs n L2 P2 _ h2 hn hs fun a ha=>?_⟩ <;> obtain ⟨b,e1,e2⟩:=hp a ha <;> simp [e1,e2]
theorem zzi (h:THeap) (hl:h.Objects.length<=1048576) (hS:SrtI TObject.Id h.Objects):∀ x:TGen,TGen.n x<=1048576->∃ b,zeZ h x=some b∧zbC h x=some b:=by
 refine TGen.ind fun x ih hx=>?_
 have hn:=TGen.n_eq x
 obtain ⟨b,e1,e2⟩:=ztP x.Kids x.Kids.length (fun i=>zbU h x i) (fun i=>zaW x.Kids h x.Kids x.Kids.length i) (fun y=>zeZ h y) (fun y=>zbC h y) (fun i=>zbU.eq_1 ..) (fun i=>zaW.eq_1 ..) rfl (by omega) (fun y hy=>ih y hy (by have:=zeU TGen.n x.Kids hy;omega))
 rw [zeZ.eq_1,zbC.eq_1,zei.eq_1,zee.eq_1,zhl _ _ hl,zkt _ _ hl hS]
 rw [e1,e2]
 simp only [Option.bind_eq_bind,Option.bind_some]
 by_cases hk:x.Kind=1
 ·rw [if_pos hk,if_pos hk]
  cases decide (FitP h.Objects x.Value) <;> cases b <;> exact ⟨_,rfl,rfl⟩
 ·rw [if_neg hk,if_neg hk]
  cases b <;> exact ⟨_,rfl,rfl⟩
theorem zzj (c:TCursor):∃ b,zio c=some b∧zdh c=some b:=by
 unfold zio zdh
 split
 ·split
  ·split
   ·exact ⟨_,rfl,rfl⟩
   ·exact ⟨_,rfl,rfl⟩
  ·exact ⟨_,rfl,rfl⟩
 ·exact ⟨_,rfl,rfl⟩
theorem ztQ (xs:List Int) (a:Int) (h:xs.length<=1099511627776):zaL xs a=some (decide (a ∈ xs)):=by
 unfold zaL zcj
 have key:=zdP xs (fun i rest=>∃ r:Unit ⊕ Int,zaX xs a xs.length (i:Int)=some r∧((a ∈ rest∧∃ j:Int,0<=j∧r=.inr j) ∨ (a ∉ rest∧r=.inl ()))) ?_ ?_
 ·obtain ⟨r,h1,h2⟩:=key
  rw [show ((0:Nat):Int)=0 from rfl] at h1
  rw [h1]
  rcases h2 with ⟨h2,j,h3,rfl⟩|⟨h2,rfl⟩
  ·exact congrArg some (decide_eq_decide.2 (by simp [h2,h3]))
  ·exact congrArg some (decide_eq_decide.2 (by simp [h2]))
 ·exact ⟨.inl (),by rw [zaX.eq_1,if_neg (by omega)],.inr ⟨by simp,rfl⟩⟩
 ·intro i b rest hi hg hd ih
  obtain ⟨r,h1,h2⟩:=ih
  rw [zaX.eq_1,if_pos (by omega)]
  simp only [zat,hg,Option.bind_eq_bind,Option.bind_some]
  rw [w64 (by omega) (by omega),show ((i:Int) + 1)=((i + 1:Nat):Int) by omega,h1]
  by_cases he:a=b
  ·rw [if_pos he]
   exact ⟨_,rfl,.inl ⟨he ▸ List.mem_cons_self ..,_,by omega,rfl⟩⟩
  ·rw [if_neg he]
   refine ⟨r,rfl,?_⟩
   rcases h2 with ⟨h2,h3⟩|⟨h2,h3⟩
   ·exact .inl ⟨List.mem_cons_of_mem _ h2,h3⟩
   ·exact .inr ⟨by simp [he,h2],h3⟩
theorem zuU (h:THeap) (x:TGen) (c:TCursor) (f:TcursorForm) (hlen:c.Kids.length=x.Kids.length) (hl:x.Kids.length<=1048576)
  (hk:∀ y ∈ x.Kids,∀ d ∈ c.Kids,∃ b,zak h y d=some b∧zag h y d=some b) :
  ∃ b:Bool,(zaH h x c 0=if b=true then some (.inl ()) else some (.inr false))∧(zan h c f x.Kids x.Kids.length 0=if b=true then some (.inl ()) else some (.inr false)):=by
 have key:=zdP x.Kids (fun i rest=>(∀ y ∈ rest,y ∈ x.Kids)->∃ b:Bool,(zaH h x c (i:Int)=if b=true then some (.inl ()) else some (.inr false))∧(zan h c f x.Kids x.Kids.length (i:Int)=if b=true then some (.inl ()) else some (.inr false))) ?_ ?_
 ·exact key fun y h=>h
 ·intro _
  refine ⟨true,?_,?_⟩
  ·rw [zaH.eq_1,if_neg (by omega)];rfl
  ·rw [zan.eq_1,if_neg (by omega)];rfl
 ·intro i a rest hi hg hd ih hm
  have hgc:=List.getElem?_eq_getElem (show i<c.Kids.length by omega)
  obtain ⟨b,e1,e2⟩:=hk a (hm a (List.mem_cons_self ..)) _ (List.getElem_mem (show i<c.Kids.length by omega))
  obtain ⟨b2,f1,f2⟩:=ih fun y h=>hm y (List.mem_cons_of_mem _ h)
  rw [zaH.eq_1,if_pos (by omega),zan.eq_1,if_pos (by omega)]
  simp only [zat,hg,hgc,e1,e2,Option.bind_eq_bind,Option.bind_some]
  rw [w64 (by omega) (by omega),show ((i:Int) + 1)=((i + 1:Nat):Int) by omega,f1,f2]
  cases b with
  | true=>exact ⟨b2,rfl,rfl⟩
  | false=>exact ⟨false,rfl,rfl⟩
theorem zzk (h:THeap) (y:TGen) (c:TCursor) (d:TCursor) (f:TcursorForm) (hd:c.Kids[0]? = some d) {b:Bool} (hb:zag h y d=some b) :
  zan h c f [y] 1 0=if b=true then some (.inl ()) else some (.inr false):=by
 rw [zan.eq_1,if_pos (by omega)]
 simp only [show idx [y] 0=some y from rfl,show idx c.Kids 0=some d from hd,hb,Option.bind_eq_bind,Option.bind_some]
 cases b with
 | false=>rfl
 | true =>
  rw [if_pos rfl,if_pos rfl,show IntKind.wrap .i64 (0 + 1)=1 from rfl,zan.eq_1,if_neg (by omega)]
theorem zuV (h:THeap) (hl:h.Objects.length<=1048576) (x:TGen) (c:TCursor) (hv:c.Vals.length<=1048576) {cb:Bool} {n:Int} (hc:zbI x c=some cb) (hn:zde x=some n) :
  zak h x c=if (cb && decide ((c.Vals.length:Int)=n) && decide (∀ v ∈ c.Vals,FitP h.Objects v))=true then zau h x c else some false:=by
 rw [zak.eq_1,hc,hn,zhZ _ _ hl (by omega)]
 simp only [Option.bind_eq_bind,Option.bind_some]
 by_cases h2:(c.Vals.length:Int)=n
 ·simp only [h2,if_true,decide_true]
  cases cb <;> cases decide (∀ v ∈ c.Vals,FitP h.Objects v) <;> rfl
 ·simp only [h2,if_false,decide_false]
  cases cb <;> rfl
theorem zzl (h:THeap) (hl:h.Objects.length<=1048576) (hS:SrtI TObject.Id h.Objects) (c:TCursor) (hv:c.Vals.length<=1048576) (f:TcursorForm) (hp:f.phases.length<=1048576) (b:Bool) :
  zaD h c f b=if (decide (c.Phase ∈ f.phases) && b && decide ((c.Vals.length:Int)=f.vals) && decide (∀ v ∈ c.Vals,FitP h.Objects v) && decide ((c.Kids.length:Int)=(f.kids.length:Int)))=true then zaM h c f else some false:=by
 rw [zaD.eq_1,ztQ _ _ (by omega),zgL _ _ hl (by omega) hS]
 simp only [Option.bind_eq_bind,Option.bind_some]
 have ho:∀ o:Option Bool,(o.bind fun t=>some t)=o:=fun o=>by cases o <;> rfl
 rw [ho]
 by_cases h2:(c.Vals.length:Int)=f.vals <;> by_cases h3:(c.Kids.length:Int)=(f.kids.length:Int) <;> simp only [h2,h3,if_true,if_false,decide_true,decide_false] <;> cases decide (c.Phase ∈ f.phases) <;> cases b <;> cases decide (∀ v ∈ c.Vals,FitP h.Objects v) <;> rfl
theorem ztR (h:THeap) (hl:h.Objects.length<=1048576) (hS:SrtI TObject.Id h.Objects) (c:TCursor) (hv:c.Vals.length<=1048576) (ps:List Int) (n1 n2:Int) (hp:ps.length<=1048576) (b:Bool) :
  zaY h c ps n1 n2 b=some (decide (c.Phase ∈ ps) && b && decide ((c.Vals.length:Int)=n2) && decide (∀ v ∈ c.Vals,FitP h.Objects v) && decide ((c.Kids.length:Int)=0)):=by
 unfold zaY zcx zcw
 rw [ztQ _ _ (by omega),zgL _ _ hl (by omega) hS]
 simp only [Option.bind_eq_bind,Option.bind_some]
 by_cases h2:(c.Vals.length:Int)=n2 <;> by_cases h3:(c.Kids.length:Int)=0 <;> simp only [h2,h3,if_true,if_false,decide_true,decide_false] <;> cases decide (c.Phase ∈ ps) <;> cases b <;> cases decide (∀ v ∈ c.Vals,FitP h.Objects v) <;> rfl
end Go.Vx.RmZ

