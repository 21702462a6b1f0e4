/-
  Scopes that are valid, as the reference has them.
-/
import Derived.Test.YtapepbhnleekbaaGreatDoorP4
set_option linter.unusedVariables false
set_option linter.unusedSimpArgs false
namespace Go.Vx.WvZ
open Classical
theorem zzD {α:Type} (nm:α->ByteArray) (ok:α->Prop) (xs:List α):(∀ (i:Nat) a,0<=i->xs[i]? = some a->ok a∧(0<i->∀ c,xs[i - 1]? = some c->ltB (nm c) (nm a)=true)) ↔ ((∀ a ∈ xs,ok a)∧Srt nm xs):=by
 constructor
 ·intro h
  refine ⟨fun a ha=>?_,fun i a b h1 h2=>(h (i + 1) b (Nat.zero_le _) h2).2 (by omega) a h1⟩
  obtain ⟨i,hi,e⟩:=List.mem_iff_getElem.1 ha
  exact (h i a (Nat.zero_le _) (by rw [List.getElem?_eq_getElem hi,e])).1
 ·intro h i a _ hg
  have hm:a ∈ xs:=by
   obtain ⟨h1,h2⟩:=List.getElem?_eq_some_iff.1 hg
   exact h2 ▸ List.getElem_mem h1
  refine ⟨h.1 a hm,fun hi c hc=>h.2 (i - 1) c a hc ?_⟩
  rw [show i - 1 + 1=i by omega];exact hg
theorem zhY {α:Type} (nm:α->ByteArray) (ok:α->Prop) (xs:List α) (hs:xs.length<=1048576) (L:Int->Option (Unit ⊕ Bool))
  (hL:∀ (i:Nat) a,i<xs.length->xs[i]? = some a->L i=if ok a then (if (i:Int) > 0 then idx xs (IntKind.wrap .i64 ((i:Int) - 1)) >>= fun c=>(if (Op.bytesLess (nm c).toList (nm a).toList)=true then L (IntKind.wrap .i64 ((i:Int) + 1)) else some (.inr false)) else L (IntKind.wrap .i64 ((i:Int) + 1))) else some (.inr false))
  (hE:L xs.length=some (.inl ())):L 0=if (∀ a ∈ xs,ok a)∧Srt nm xs then some (.inl ()) else some (.inr false):=by
 have hh:=zdB xs L false (fun i a=>ok a∧(0<i->∀ c,xs[i - 1]? = some c->ltB (nm c) (nm a)=true)) 0 (Nat.zero_le _) ?_ ?_ hE
 ·rw [show ((0:Nat):Int)=0 from rfl] at hh
  rw [hh]
  have hiff:=zzD nm ok xs
  by_cases hS:(∀ a ∈ xs,ok a)∧Srt nm xs
  ·rw [if_pos hS,if_pos (hiff.2 hS)]
  ·rw [if_neg hS,if_neg (fun h=>hS (hiff.1 h))]
 ·intro i a _ hi hg hp
  rw [hL i a hi hg,if_pos hp.1,w64 (by omega) (by omega)]
  by_cases h0:0<i
  ·have hg1:=List.getElem?_eq_getElem (show i - 1<xs.length by omega)
   have hlt:Op.bytesLess (nm xs[i - 1]).toList (nm a).toList=true:=hp.2 h0 _ hg1
   rw [if_pos (by omega),w64 (by omega) (by omega),show ((i:Int) - 1)=((i - 1:Nat):Int) by omega,zao,hg1]
   simp only [Option.bind_eq_bind,Option.bind_some]
   rw [if_pos hlt]
  ·rw [if_neg (by omega),w64 (by omega) (by omega)]
 ·intro i a _ hi hg hp
  rw [hL i a hi hg]
  by_cases ha:ok a
  ·rw [if_pos ha]
   by_cases h0:0<i
   ·have hg1:=List.getElem?_eq_getElem (show i - 1<xs.length by omega)
    rw [if_pos (by omega),w64 (by omega) (by omega),show ((i:Int) - 1)=((i - 1:Nat):Int) by omega,zao,hg1]
    simp only [Option.bind_eq_bind,Option.bind_some]
    rw [if_neg]
    intro e
    refine hp ⟨ha,fun _ c hc=>?_⟩
    rw [hg1] at hc;cases hc;exact e
   ·exact absurd ⟨ha,fun h=>absurd h h0⟩ hp
  ·rw [if_neg ha]
theorem zuD (x:TScope) (h:x.Vars.length<=1048576):zbL x 0=if (∀ a ∈ x.Vars,zgL a)∧Srt TBinding.Name x.Vars then some (.inl ()) else some (.inr false):=by
 refine zhY TBinding.Name zgL x.Vars h (zbL x) ?_ ?_
 ·intro i a hi hg
  rw [zbL.eq_1,if_pos (by omega)]
  simp only [zao,hg,zbp,zcC,zjO,Option.bind_eq_bind,Option.bind_some]
  by_cases h1:zaI a.Name=true
  ·rw [if_pos h1]
   by_cases h2:vOK a.Value=true
   ·rw [if_pos h2]
    by_cases h3:ziL a.Value=true
    ·rw [if_pos h3,if_neg]
     intro q;rw [q.2.2] at h3;cases h3
    ·rw [if_neg h3,if_pos (show zgL a from ⟨h1,h2,Bool.eq_false_iff.2 h3⟩)]
   ·rw [if_neg h2,if_neg (fun q=>h2 q.2.1)]
  ·rw [if_neg h1,if_neg (fun q=>h1 q.1)]
 ·rw [zbL.eq_1,if_neg (by omega)]
theorem zuE (x:TScope) (h:x.Functions.length + lsum TFunction.n x.Functions<=1048576):zbM x 0=if (∀ a ∈ x.Functions,FnOK a)∧Srt TFunction.Name x.Functions then some (.inl ()) else some (.inr false):=by
 refine zhY TFunction.Name FnOK x.Functions (by omega) (zbM x) ?_ ?_
 ·intro i a hi hg
  have hm:a ∈ x.Functions:=(List.getElem?_eq_some_iff.1 hg).2 ▸ List.getElem_mem hi
  rw [zbM.eq_1,if_pos (by omega)]
  simp only [zao,hg,Option.bind_eq_bind,Option.bind_some,zzC a (zlR a (by have:=zeM TFunction.n x.Functions hm;omega))]
  by_cases h1:FnOK a
  ·rw [if_pos (decide_eq_true h1),if_pos h1]
  ·rw [if_neg (by rw [decide_eq_false h1];simp),if_neg h1]
 ·rw [zbM.eq_1,if_neg (by omega)]
theorem zuF (x:TScope) (h:x.Types.length + lsum TRecordType.n x.Types<=1048576):zbN x 0=if (∀ a ∈ x.Types,zew a)∧Srt TRecordType.Name x.Types then some (.inl ()) else some (.inr false):=by
 refine zhY TRecordType.Name zew x.Types (by omega) (zbN x) ?_ ?_
 ·intro i a hi hg
  have hm:a ∈ x.Types:=(List.getElem?_eq_some_iff.1 hg).2 ▸ List.getElem_mem hi
  rw [zbN.eq_1,if_pos (by omega)]
  simp only [zao,hg,Option.bind_eq_bind,Option.bind_some,ztA a (zhX a (by have:=zeM TRecordType.n x.Types hm;omega))]
  by_cases h1:zew a
  ·rw [if_pos (decide_eq_true h1),if_pos h1]
  ·rw [if_neg (by rw [decide_eq_false h1];simp),if_neg h1]
 ·rw [zbN.eq_1,if_neg (by omega)]
theorem zgM (x:TScope) (h:TScope.n x<=1048576):zej x=some (decide (zbB x)):=by
 simp only [TScope.n] at h
 unfold zej zfc
 rw [zuD x (by omega),zuE x (by omega),zuF x (by omega)]
 by_cases h1:x.Vars.length<=40
 ·rw [if_neg (by omega)]
  by_cases h2:x.Functions.length<=12
  ·rw [if_neg (by omega)]
   by_cases h3:x.Types.length<=8
   ·rw [if_neg (by omega)]
    by_cases q1:(∀ a ∈ x.Vars,zgL a)∧Srt TBinding.Name x.Vars
    ·rw [if_pos q1]
     by_cases q2:(∀ a ∈ x.Functions,FnOK a)∧Srt TFunction.Name x.Functions
     ·rw [if_pos q2]
      by_cases q3:(∀ a ∈ x.Types,zew a)∧Srt TRecordType.Name x.Types
      ·rw [if_pos q3]
       exact congrArg some (decide_eq_true (show zbB x from ⟨⟨h1,h2,h3⟩,⟨q1.2,q2.2,q3.2⟩,q1.1,q2.1,q3.1⟩)).symm
      ·rw [if_neg q3]
       exact congrArg some (decide_eq_false (fun q:zbB x=>q3 ⟨q.2.2.2.2,q.2.1.2.2⟩)).symm
     ·rw [if_neg q2]
      exact congrArg some (decide_eq_false (fun q:zbB x=>q2 ⟨q.2.2.2.1,q.2.1.2.1⟩)).symm
    ·rw [if_neg q1]
     exact congrArg some (decide_eq_false (fun q:zbB x=>q1 ⟨q.2.2.1,q.2.1.1⟩)).symm
   ·rw [if_pos (by omega)];exact congrArg some (decide_eq_false (fun q:zbB x=>h3 q.1.2.2)).symm
  ·rw [if_pos (by omega)];exact congrArg some (decide_eq_false (fun q:zbB x=>h2 q.1.2.1)).symm
 ·rw [if_pos (by omega)];exact congrArg some (decide_eq_false (fun q:zbB x=>h1 q.1.1)).symm
end Go.Vx.WvZ

