/-
  Lists of names, as the reference has them.
-/
import Derived.Test.YtapepbhnleekbaaGreatDoorP3
set_option linter.unusedVariables false
set_option linter.unusedSimpArgs false
namespace Go.Vx.WvZ
open Classical
theorem ztx (l:List ByteArray) (x:ByteArray) (h:l.length<=1048576) (hx:x ∈ l):zlA l x=some ((l.findIdx fun y=>decide (y=x):Nat):Int):=by
 have key:=zbD l (fun i rest=>x ∈ rest->zfQ l x (i:Int)=some (.inr ((i + rest.findIdx fun y=>decide (y=x):Nat):Int))) (fun h=>by cases h) ?_ hx
 ·unfold zlA
  rw [show ((0:Nat):Int)=0 from rfl] at key
  rw [key]
  simp
 ·intro i a rest hi hg hd ih hm
  rw [zfQ.eq_1,if_pos (by omega)]
  simp only [zao,hg,Option.bind_eq_bind,Option.bind_some]
  rw [w64 (by omega) (by omega),List.findIdx_cons]
  by_cases ha:a=x
  ·rw [if_pos ha,decide_eq_true ha];simp
  ·rw [if_neg ha,decide_eq_false ha]
   have hm':x ∈ rest:=by
    rcases List.mem_cons.1 hm with e|e
    ·exact absurd e.symm ha
    ·exact e
   have:=ih hm'
   have ih':zfQ l x ((i:Int) + 1)=_:=this
   rw [ih']
   simp;omega
theorem zkM (l:List ByteArray) (h:l.length<=1048576):zfR l=some (decide (zjQ l)):=by
 unfold zfR
 have hL:=zdB l (zeB l) false (fun i a=>zaI a=true∧l.findIdx (fun y=>decide (y=a))=i) 0 (Nat.zero_le _) ?_ ?_ ?_
 ·rw [show ((0:Nat):Int)=0 from rfl] at hL
  rw [hL]
  have hiff:(∀ (i:Nat) a,0<=i->l[i]? = some a->zaI a=true∧l.findIdx (fun y=>decide (y=a))=i) ↔ zjQ l:=by
   constructor
   ·intro hh
    refine ⟨fun x hx=>?_,?_⟩
    ·obtain ⟨i,hi,e⟩:=List.mem_iff_getElem.1 hx
     exact (hh i x (Nat.zero_le _) (by rw [List.getElem?_eq_getElem hi,e])).1
    ·rw [zgB]
     intro i j hij hj e
     have hg:=List.getElem?_eq_getElem hj
     have h1:=(hh j _ (Nat.zero_le _) hg).2
     have h2:=(hh i _ (Nat.zero_le _) (e.trans hg)).2
     omega
   ·intro hh i a _ hg
    obtain ⟨hi,e⟩:=List.getElem?_eq_some_iff.1 hg
    have hm:a ∈ l:=e ▸ List.getElem_mem hi
    refine ⟨hh.1 a hm,?_⟩
    have hlt:l.findIdx (fun y=>decide (y=a))<l.length:=List.findIdx_lt_length_of_exists ⟨a,hm,by simp⟩
    have h1:l[l.findIdx (fun y=>decide (y=a))]=a:=by
     have:=List.findIdx_getElem (p:=fun y=>decide (y=a)) (xs:=l) (w:=hlt)
     exact of_decide_eq_true this
    rcases Nat.lt_trichotomy (l.findIdx (fun y=>decide (y=a))) i with q|q|q
    ·exact absurd (by rw [List.getElem?_eq_getElem hlt,h1,hg]) (((zgB _).1 hh.2) _ i q hi)
    ·exact q
    ·exact absurd (by rw [List.getElem?_eq_getElem hlt,h1,hg]) (((zgB _).1 hh.2) i _ q hlt)
  by_cases hN:zjQ l
  ·rw [if_pos (hiff.2 hN),decide_eq_true hN];rfl
  ·rw [if_neg (fun h=>hN (hiff.1 h)),decide_eq_false hN];rfl
 ·intro i a _ hi hg hp
  rw [zeB.eq_1,if_pos (by omega)]
  have hm:a ∈ l:=(List.getElem?_eq_some_iff.1 hg).2 ▸ List.getElem_mem hi
  simp only [zao,hg,Option.bind_eq_bind,Option.bind_some,zbp,ztx l a h hm,hp.1,hp.2,if_true]
  rw [w64 (by omega) (by omega)]
 ·intro i a _ hi hg hp
  rw [zeB.eq_1,if_pos (by omega)]
  have hm:a ∈ l:=(List.getElem?_eq_some_iff.1 hg).2 ▸ List.getElem_mem hi
  simp only [zao,hg,Option.bind_eq_bind,Option.bind_some,zbp,ztx l a h hm]
  by_cases hn:zaI a=true
  ·rw [if_pos hn,if_neg]
   intro e;exact hp ⟨hn,by omega⟩
  ·rw [if_neg hn]
 ·rw [zeB.eq_1,if_neg (by omega)]
end Go.Vx.WvZ

