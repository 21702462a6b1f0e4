/-
  The first of two codes; a co-expression found.
-/
import Derived.Test.YtnaaflejkfaiaaaGreatK1
set_option linter.unusedVariables false
set_option linter.unusedSimpArgs false
namespace Go.Vx.RmZ
theorem zBp (a b:Int):zlQ [a,b]=some (if a=0 then b else a):=by
 unfold zlQ
 rw [ziM.eq_1,if_pos (by simp),show idx [a,b] 0=some a from rfl]
 simp only [Option.bind_eq_bind,Option.bind_some]
 by_cases ha:a=0
 ·rw [if_pos ha,if_pos ha,show IntKind.wrap .i64 (0 + 1)=1 from rfl,ziM.eq_1,if_pos (by simp),show idx [a,b] 1=some b from rfl]
  simp only [Option.bind_eq_bind,Option.bind_some]
  by_cases hb:b=0
  ·rw [if_pos hb,show IntKind.wrap .i64 (1 + 1)=2 from rfl,ziM.eq_1,if_neg (by simp),hb];rfl
  ·rw [if_neg hb];rfl
 ·rw [if_neg ha,if_neg ha];rfl
theorem ztW (b:Bool) (n:Int):ziq b n=some (if b=true then 0 else n):=by unfold ziq;split <;> rfl
theorem zzm (x:TGenScope) (id:Int) (hc:x.Cos.length<=1048576):∃ r:Int,zlO x id=some r∧zdt x id=some r∧(r=-1 ∨ ∃ i:Nat,i<x.Cos.length∧r=i):=by
 unfold zlO zdt zbm
 have key:=zdP x.Cos (fun i rest=>∃ r:Unit ⊕ Int,zhz x id (i:Int)=some r∧zaI x.Cos x.Cos.length id (i:Int)=some r∧(r=.inl () ∨ ∃ j:Nat,j<x.Cos.length∧r=.inr (j:Int))) ?_ ?_
 ·obtain ⟨r,e1,e2,e3⟩:=key
  rw [show ((0:Nat):Int)=0 from rfl] at e1 e2
  rw [e1,e2]
  rcases e3 with rfl|⟨j,hj,rfl⟩
  ·exact ⟨-1,rfl,rfl,.inl rfl⟩
  ·exact ⟨j,rfl,rfl,.inr ⟨j,hj,rfl⟩⟩
 ·exact ⟨.inl (),by rw [zhz.eq_1,if_neg (by omega)],by rw [zaI.eq_1,if_neg (by omega)],.inl rfl⟩
 ·intro i a rest hi hg hd ih
  obtain ⟨r,e1,e2,e3⟩:=ih
  rw [zhz.eq_1,if_pos (by omega),zaI.eq_1,if_pos (by omega)]
  unfold zdY
  simp only [zat,hg,Option.bind_eq_bind,Option.bind_some,decide_eq_true_eq]
  rw [w64 (by omega) (by omega),show ((i:Int) + 1)=((i + 1:Nat):Int) by omega,e1,e2]
  by_cases he:a.Id=id
  ·rw [if_pos he];exact ⟨_,rfl,rfl,.inr ⟨i,hi,rfl⟩⟩
  ·rw [if_neg he];exact ⟨r,rfl,rfl,e3⟩
end Go.Vx.RmZ

