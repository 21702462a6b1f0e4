/-
  Decimal numerals, both sides.
-/
import Derived.Test.YtapepbhnleekbaaGreatDoorP2
import Derived.Lib.ItoaLen
set_option linter.unusedVariables false
set_option linter.unusedSimpArgs false
namespace Go.Vx.WvZ
open Classical
theorem w8 {n:Int} (h1:0<=n) (h2:n<256):IntKind.wrap .u8 n=n:=by
 unfold IntKind.wrap IntKind.signed IntKind.bits
 simp
 omega
theorem zzM (d:Nat) (h:d<10):(txtI [IntKind.wrap .u8 (IntKind.wrap .i64 (48 + (d:Int)))])=(⟨#[UInt8.ofNat (48 + d)]⟩:ByteArray):=by
 rw [w64 (by omega) (by omega),w8 (by omega) (by omega)]
 unfold txtI
 simp only [List.map_cons,List.map_nil]
 rw [show (48 + (d:Int)).toNat=48 + d by omega]
theorem zyS (a b:List UInt8):(⟨a.toArray⟩:ByteArray)++⟨b.toArray⟩=⟨(a++b).toArray⟩:=by
 apply ByteArray.ext
 simp [ByteArray.data_append]
theorem zjY (a:List UInt8):(⟨a.toArray⟩:ByteArray).size=a.length:=rfl
theorem zqv (p:Int):∀ (u:Nat) (n:Int) (acc:List UInt8),(n=(u:Int) ∨ n=-(u:Int))->0<u->u<=9223372036854775808->acc.length<=40->u<10 ^ (40 - acc.length) ->
  zbA p ⟨acc.toArray⟩ n=some ⟨(Lib.decDigits u++acc).toArray⟩:=by
 intro u
 induction u using Nat.strongRecOn with
 | _ u ih =>
  intro n acc hn h0 hm hl hp
  have hpos:1<=40 - acc.length:=by
   rcases Nat.eq_zero_or_pos (40 - acc.length) with e|e
   ·rw [e] at hp;omega
   ·exact e
  have hne:¬ n=0:=by omega
  have hd:u % 10<10:=Nat.mod_lt _ (by decide)
  have next:∀ m:Int,(m=((u / 10:Nat):Int) ∨ m=-((u / 10:Nat):Int))->zbA p ⟨(UInt8.ofNat (48 + u % 10)::acc).toArray⟩ m=some ⟨(Lib.decDigits u++acc).toArray⟩:=by
   intro m hm2
   by_cases hu:u<10
   ·have:m=0:=by have:u / 10=0:=Nat.div_eq_of_lt hu;omega
    rw [zbA.eq_1,if_pos this,Lib.decDigits,dif_pos hu,Nat.mod_eq_of_lt hu]
    rfl
   ·have hpw:u / 10<10 ^ (40 - (UInt8.ofNat (48 + u % 10)::acc).length):=by
     rw [List.length_cons]
     have e:40 - acc.length=(40 - (acc.length + 1)) + 1:=by omega
     rw [e,Nat.pow_succ] at hp
     omega
    rw [ih (u / 10) (by omega) m _ hm2 (by omega) (by omega) (by rw [List.length_cons];omega) hpw]
    conv=>rhs;rw [Lib.decDigits,dif_neg hu]
    simp
  have hj:∀ d:Int,d=((u % 10:Nat):Int)->zcX p ⟨acc.toArray⟩ n d >>= (fun t=>zbA p t.1 (IntKind.wrap .i64 (n.tdiv 10)))=some ⟨(Lib.decDigits u++acc).toArray⟩:=by
   intro d hd2
   subst hd2
   unfold zcX
   rw [zzM _ hd,show (⟨#[UInt8.ofNat (48 + u % 10)]⟩:ByteArray)=⟨[UInt8.ofNat (48 + u % 10)].toArray⟩ from rfl,zoH (by rw [zjY,zjY];unfold zfH;simp only [List.length_cons,List.length_nil];omega),zyS]
   simp only [Option.bind_eq_bind,Option.bind_some]
   refine next _ ?_
   rcases hn with rfl|rfl
   ·left
    rw [show ((u:Int).tdiv 10)=((u / 10:Nat):Int) from rfl,w64 (by omega) (by omega)]
   ·right
    rw [Int.neg_tdiv,show ((u:Int).tdiv 10)=((u / 10:Nat):Int) from rfl,w64 (by omega) (by omega)]
  rw [zbA.eq_1,if_neg hne]
  rcases hn with rfl|rfl
  ·have e:((u:Int).tmod 10)=((u % 10:Nat):Int):=rfl
   rw [e,if_neg (by omega)]
   exact hj _ rfl
  ·have e:((-(u:Int)).tmod 10)=-((u % 10:Nat):Int):=by rw [Int.neg_tmod];rfl
   rw [e]
   by_cases hz:u % 10=0
   ·rw [if_neg (by omega)]
    exact hj _ (by omega)
   ·rw [if_pos (by omega),w64 (by omega) (by omega)]
    exact hj _ (by omega)
theorem zzN (u:Nat) (h:u<=9223372036854775808):(Lib.decDigits u).length<=20:=by
 rw [Lib.decDigits_length];exact Lib.nDigits_le20 u (by omega)
theorem zok (n:Int) (h1:-9223372036854775808<=n) (h2:n<9223372036854775808):zgd n=some ⟨(Lib.itoa n).toArray⟩:=by
 unfold zgd Lib.itoa
 by_cases h0:n=0
 ·subst h0
  rw [if_pos rfl,if_neg (by omega)]
  rw [show (0:Int).toNat=0 from rfl,Lib.decDigits,dif_pos (by omega)]
  rfl
 ·rw [if_neg h0]
  have hk:=zqv n n.natAbs n [] (by omega) (by omega) (by omega) (by decide) (by
   have:(9223372036854775808:Nat)<10 ^ (40 - ([]:List UInt8).length):=by decide
   omega)
  rw [show (⟨#[]⟩:ByteArray)=⟨([]:List UInt8).toArray⟩ from rfl,hk]
  simp only [Option.bind_eq_bind,Option.bind_some,List.append_nil]
  by_cases hn:n<0
  ·have:=zzN n.natAbs (by omega)
   rw [if_pos hn,if_pos hn,show (⟨#[45]⟩:ByteArray)=⟨([45]:List UInt8).toArray⟩ from rfl,zoH (by rw [zjY,zjY];unfold zfH;simp only [List.length_cons,List.length_nil];omega),zyS]
   rfl
  ·rw [if_neg hn,if_neg hn,show n.natAbs=n.toNat by omega]
theorem znf (n:Int) (h1:-9223372036854775808<=n) (h2:n<9223372036854775808):zhS n=some ⟨(Lib.itoa n).toArray⟩:=by
 unfold zhS zcO zrz
 rw [if_pos ⟨rfl,h1,by omega⟩]
 rfl
def toT (v:TValue):ByteArray × Bool :=
 if vOK v=true then if v.Kind=1 then (v.Text,true) else if v.Kind=2 then (⟨(Lib.itoa v.Num).toArray⟩,true) else (⟨#[]⟩,false) else (⟨#[]⟩,false)
theorem zol {v:TValue} (h:vOK v=true) (h1:¬ v.Kind=1) (h2:v.Kind=2):-1000000000000<=v.Num∧v.Num<=1000000000000:=by
 unfold vOK at h
 rw [if_neg h1,if_pos h2] at h
 simp only [Bool.and_eq_true,decide_eq_true_eq] at h
 exact h.2
theorem zuQ (v:TValue):ziU v=some (toT v):=by
 unfold ziU toT
 rw [zcC]
 simp only [Option.bind_eq_bind,Option.bind_some]
 by_cases h:vOK v=true
 ·rw [if_pos h,if_pos h]
  by_cases h1:v.Kind=1
  ·rw [if_pos h1,if_pos h1]
  ·rw [if_neg h1,if_neg h1]
   by_cases h2:v.Kind=2
   ·have:=zol h h1 h2
    rw [if_pos h2,if_pos h2,zok _ (by omega) (by omega)];rfl
   ·rw [if_neg h2,if_neg h2]
 ·rw [if_neg h,if_neg h]
theorem zuR (v:TValue):ziY v=some (toT v):=by
 unfold ziY toT
 rw [zcD]
 simp only [Option.bind_eq_bind,Option.bind_some]
 by_cases h:vOK v=true
 ·rw [if_pos h,if_pos h]
  by_cases h1:v.Kind=1
  ·rw [if_pos h1,if_pos h1]
  ·rw [if_neg h1,if_neg h1]
   by_cases h2:v.Kind=2
   ·have:=zol h h1 h2
    rw [if_pos h2,if_pos h2,znf _ (by omega) (by omega)];rfl
   ·rw [if_neg h2,if_neg h2]
 ·rw [if_neg h,if_neg h]
theorem zpt (v:TValue):(toT v).1.size<=200:=by
 unfold toT
 by_cases h:vOK v=true
 ·rw [if_pos h]
  by_cases h1:v.Kind=1
  ·rw [if_pos h1]
   unfold vOK at h
   rw [if_pos h1] at h
   simp only [Bool.and_eq_true,decide_eq_true_eq] at h
   show v.Text.size<=200
   omega
  ·rw [if_neg h1]
   by_cases h2:v.Kind=2
   ·have:=zol h h1 h2
    have:=Lib.itoa_length_le v.Num (by omega) (by omega)
    rw [if_pos h2,zjY];omega
   ·rw [if_neg h2];decide
 ·rw [if_neg h];decide
end Go.Vx.WvZ

