/-
  Sorted lists, bindings.
-/
import Derived.Test.YtnaaflejkfaiaaaGreatP2n
set_option linter.unusedVariables false
set_option linter.unusedSimpArgs false
namespace Go.Vx.RmZ
open Classical
def ztz (b:TBinding):Prop:=zdn b.Name=true∧vOK b.Value=true∧zmb b.Value=false
theorem ztA (b:TBinding):zdx b=some (decide (ztz b)):=by
 unfold zdx
 simp only [zfJ,zdo,zol,Option.bind_eq_bind,Option.bind_some]
 have hP:ztz b ↔ (zdn b.Name=true∧vOK b.Value=true∧zmb b.Value=false):=Iff.rfl
 simp only [hP]
 cases zdn b.Name <;> cases vOK b.Value <;> cases zmb b.Value <;> simp
theorem ztB {α:Type} (nm:α->ByteArray) (xs:List α) (hs:xs.length<=1048576) (L:Int->Option (Unit ⊕ Bool))
  (hL:∀ i,L i=if i<(xs.length:Int) then (idx xs (IntKind.wrap .i64 (i - 1)) >>= fun a=>some (nm a) >>= fun r=>idx xs i >>= fun b=>some (nm b) >>= fun q=>if (Op.bytesLess r.toList q.toList)=true then L (IntKind.wrap .i64 (i + 1)) else some (.inr false)) else some (.inl ())) :
  L 1=if Srt nm xs then some (.inl ()) else some (.inr false):=by
 cases xs with
 | nil =>
  rw [hL,if_neg (by simp),if_pos]
  intro i a b h1 h2
  cases h1
 | cons x0 r =>
  have hh:=zdE (x0::r) L false (fun i b=>∀ a,(x0::r)[i - 1]? = some a->ltB (nm a) (nm b)=true) 1 (by simp) ?_ ?_ ?_
  ·rw [show ((1:Nat):Int)=1 from rfl] at hh
   rw [hh]
   have hiff:(∀ (i:Nat) b,1<=i->(x0::r)[i]? = some b->∀ a,(x0::r)[i - 1]? = some a->ltB (nm a) (nm b)=true) ↔ Srt nm (x0::r):=by
    constructor
    ·intro h i a b h1 h2;exact h (i + 1) b (by omega) h2 a h1
    ·intro h i b hi h1 a h2
     refine h (i - 1) a b h2 ?_
     rw [show i - 1 + 1=i by omega];exact h1
   by_cases hS:Srt nm (x0::r)
   ·rw [if_pos hS,if_pos (hiff.2 hS)]
   ·rw [if_neg hS,if_neg (fun h=>hS (hiff.1 h))]
  ·intro i b h1 h2 hg hp
   have hg1:=List.getElem?_eq_getElem (show i - 1<(x0::r).length by omega)
   rw [hL,if_pos (by omega),w64 (by omega) (by omega),show ((i:Int) - 1)=((i - 1:Nat):Int) by omega,zat,zat,hg,hg1]
   have this:Op.bytesLess (nm (x0::r)[i - 1]).toList (nm b).toList=true:=hp _ hg1
   simp only [Option.bind_eq_bind,Option.bind_some]
   rw [if_pos this,w64 (by omega) (by omega)]
  ·intro i b h1 h2 hg hp
   have hg1:=List.getElem?_eq_getElem (show i - 1<(x0::r).length by omega)
   rw [hL,if_pos (by omega),w64 (by omega) (by omega),show ((i:Int) - 1)=((i - 1:Nat):Int) by omega,zat,zat,hg,hg1]
   simp only [Option.bind_eq_bind,Option.bind_some]
   rw [if_neg]
   intro e
   refine hp fun a ha=>?_
   rw [hg1] at ha;cases ha;exact e
  ·rw [hL,if_neg (by omega)]
theorem zqd (l:List TBinding) (h:l.length<=1048576):zcX l=some (decide (Srt TBinding.Name l)):=by
 unfold zcX
 rw [ztB TBinding.Name l h (zbV l) (fun i=>zbV.eq_1 ..)]
 by_cases hS:Srt TBinding.Name l
 ·rw [if_pos hS,decide_eq_true hS];rfl
 ·rw [if_neg hS,decide_eq_false hS];rfl
theorem zzc {α:Type} (nm:α->ByteArray) (ok:α->Prop) (xs:List α):(∀ (i:Nat) a,0<=i->xs[i]? = some a->ok a∧(0<i->∀ c,xs[i - 1]? = some c->ltB (nm c) (nm a)=true)) ↔ ((∀ a ∈ xs,ok a)∧Srt nm xs):=by
 constructor
 ·intro h
  refine ⟨fun a ha=>?_,fun i a b h1 h2=>(h (i + 1) b (Nat.zero_le _) h2).2 (by omega) a h1⟩
  obtain ⟨i,hi,e⟩:=List.mem_iff_getElem.1 ha
  exact (h i a (Nat.zero_le _) (by rw [List.getElem?_eq_getElem hi,e])).1
 ·intro h i a _ hg
  have hm:a ∈ xs:=by
   obtain ⟨h1,h2⟩:=List.getElem?_eq_some_iff.1 hg
   exact h2 ▸ List.getElem_mem h1
  refine ⟨h.1 a hm,fun hi c hc=>h.2 (i - 1) c a hc ?_⟩
  rw [show i - 1 + 1=i by omega];exact hg
end Go.Vx.RmZ

