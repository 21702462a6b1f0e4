/-
  A variable is assigned to: both sides, as one plain function.
-/
import Derived.Test.YtapepbhnleekbaaGreatDoorCi
import Derived.Test.YtapepbhnleekbaaGreatDoorCs
import Derived.Test.YtapepbhnleekbaaGreatDoorCmp
set_option linter.unusedVariables false
set_option linter.unusedSimpArgs false
namespace Go.Vx.WvZ
open Classical
abbrev bnm:=TBinding.Name
def asgL (xs:List TBinding) (x:ByteArray) (v:TValue):List TBinding :=
 xs.take (pos bnm xs x)++((if ziL v=true then [] else [TBinding.mk x v])++xs.drop (if zfF bnm xs x=true then pos bnm xs x + 1 else pos bnm xs x))
def zuO:TScope:=TScope.mk [] [] []
noncomputable def asg (s:TScope) (x:ByteArray) (v:TValue):TScope × Int :=
 if (asgL s.Vars x v).length > 40 then (zuO,6) else (TScope.mk (asgL s.Vars x v) s.Functions s.Types,0)
theorem zic {xs:List TBinding} {x:ByteArray} (h:zfF bnm xs x=true):pos bnm xs x<xs.length:=by
 unfold zfF at h
 cases hg:xs[pos bnm xs x]? with
 | none=>rw [hg] at h;cases h
 | some a=>exact (List.getElem?_eq_some_iff.1 hg).1
theorem zps (xs:List TBinding) (x:ByteArray) (v:TValue):(asgL xs x v).length=(if ziL v=true then 0 else 1) + (if zfF bnm xs x=true then xs.length - 1 else xs.length):=by
 have hp:=zjx bnm xs x
 unfold asgL
 simp only [List.length_append,List.length_take,List.length_drop]
 by_cases h:zfF bnm xs x=true
 ·have:=zic h
  rw [if_pos h,if_pos h]
  split <;> simp <;> omega
 ·rw [if_neg h,if_neg h]
  split <;> simp <;> omega
theorem zkO (xs:List TBinding) (x:ByteArray) (h:xs.length<=1048576) (hS:Srt bnm xs):zde xs x=some (((pos bnm xs x:Nat):Int),zfF bnm xs x):=by
 unfold zde zay
 rw [zzG bnm xs x h hS (fun a=>zcg a x) (fun a=>by simp only [zcg,zbo,Option.bind_eq_bind,Option.bind_some,zCl]) (zah xs x xs.length) (fun lo hi=>zah.eq_1 ..)]
 rfl
theorem zzL {α:Type} (l:List α) (i:Nat) (y:α) (h:i<l.length):setN l i y=l.take i++y::l.drop (i + 1):=by
 unfold setN
 rw [List.set_eq_take_append_cons_drop,if_pos h]
theorem zqt (xs:List TBinding) (x:ByteArray) (v:TValue) (h:xs.length<=1048576) (hS:Srt bnm xs) (hv:¬ ziL v=true):zcu xs (TBinding.mk x v)=some (asgL xs x v):=by
 unfold zcu zbo zal zaL asgL
 simp only [Option.bind_eq_bind,Option.bind_some,zkO xs x h hS]
 rw [zaJ (show xs.length<=most by unfold most;omega)]
 simp only [Option.bind_some]
 have hp:=zjx bnm xs x
 by_cases hh:zfF bnm xs x=true
 ·have hl:=zic hh
  rw [if_pos hh,if_pos hh,if_neg hv,zao,List.getElem?_eq_getElem hl]
  simp only [Option.bind_some,Int.toNat_natCast]
  rw [zzL _ _ _ hl];rfl
 ·rw [if_neg hh,if_neg hh,if_neg hv,zaJ (show 0<=((pos bnm xs x:Nat):Int)∧((pos bnm xs x:Nat):Int)<=(xs.length:Int)∧xs.length + 1<=most by unfold most;omega)]
  rfl
abbrev setV (g:Trunner) (l:List TBinding):Trunner:=Trunner.mk (TMemory.mk g.m_.Heap (TScope.mk l g.m_.Scope.Functions g.m_.Scope.Types) g.m_.Console) g.program g.hasCalls g.fuel g.steps g.level g.at_
theorem zoi (x:ByteArray) (v:TValue) (g:Trunner) (h:g.m_.Scope.Vars.length<=40) (hS:Srt bnm g.m_.Scope.Vars) :
  zeh x v g=some (if (asgL g.m_.Scope.Vars x v).length > 40 then (6,g) else (0,setV g (asgL g.m_.Scope.Vars x v))):=by
 have e0:setV g g.m_.Scope.Vars=g:=rfl
 revert e0
 generalize hxs:g.m_.Scope.Vars=xs at h hS ⊢
 intro e0
 unfold zeh zcP
 rw [hxs,zkO xs x (by omega) hS,zjP,zps]
 simp only [Option.bind_eq_bind,Option.bind_some]
 have hp:=zjx bnm xs x
 by_cases hv:ziL v=true
 ·rw [if_pos hv,if_pos hv]
  by_cases hh:zfF bnm xs x=true
  ·have hl:=zic hh
   rw [if_pos hh,if_pos hh,if_neg (by omega)]
   unfold zal zaK asgL
   rw [zaJ (show xs.length<=most by unfold most;omega),w64 (by omega) (by omega)]
   simp only [Option.bind_eq_bind,Option.bind_some]
   rw [zaJ (show 0<=((pos bnm xs x:Nat):Int)∧True∧((pos bnm xs x:Nat):Int)<(xs.length:Int)∧xs.length<=most from ⟨by omega,trivial,by omega,by unfold most;omega⟩),if_pos hv,if_pos hh]
   simp only [Option.bind_some,Int.toNat_natCast,List.nil_append]
  ·rw [if_neg hh,if_neg hh,if_neg (by omega)]
   unfold asgL
   rw [if_neg hh,if_pos hv,List.nil_append,List.take_append_drop,e0]
 ·rw [if_neg hv,if_neg hv,zqt xs x v (by omega) hS hv]
  simp only [Option.bind_some]
  by_cases hh:zfF bnm xs x=true
  ·have hl:=zic hh
   rw [if_pos hh,if_pos hh,if_neg (by omega)]
  ·rw [if_neg hh,if_neg hh]
   by_cases h40:(xs.length:Int)=40
   ·rw [if_pos h40,if_pos (by omega)]
   ·rw [if_neg h40,if_neg (by omega)]
theorem zqu (s z own:TScope) (x:ByteArray) (v:TValue) (h:s.Vars.length<=1048576) (hS:Srt bnm s.Vars) :
  zcY x s v z own [] 0=some (s.Vars.take (pos bnm s.Vars x),((pos bnm s.Vars x:Nat):Int)):=by
 have hp:=zjx bnm s.Vars x
 have key:∀ (n i:Nat),pos bnm s.Vars x - i=n->i<=pos bnm s.Vars x->zcY x s v z own (s.Vars.take i) (i:Int)=some (s.Vars.take (pos bnm s.Vars x),((pos bnm s.Vars x:Nat):Int)):=by
  intro n
  induction n with
  | zero =>
   intro i h1 h2
   obtain rfl:i=pos bnm s.Vars x:=by omega
   rw [zcY.eq_1]
   by_cases hl:pos bnm s.Vars x<s.Vars.length
   ·rw [if_pos (by omega),zao,List.getElem?_eq_getElem hl]
    simp only [Option.bind_eq_bind,Option.bind_some]
    have:=zmz hS (x:=x) (List.getElem?_eq_getElem hl)
    rw [if_neg (show ¬ Op.bytesLess (s.Vars[pos bnm s.Vars x]).Name.toList x.toList=true from fun e=>absurd (this.1 e) (Nat.lt_irrefl _))]
   ·rw [if_neg (by omega)]
  | succ n ih =>
   intro i h1 h2
   have hl:i<s.Vars.length:=by omega
   rw [zcY.eq_1,if_pos (by omega)]
   unfold zfB
   simp only [zao,List.getElem?_eq_getElem hl,Option.bind_eq_bind,Option.bind_some]
   have hq:Op.bytesLess (s.Vars[i]).Name.toList x.toList=true:=(zmz hS (x:=x) (List.getElem?_eq_getElem hl)).2 (by omega)
   rw [if_pos hq,zcx (by unfold most;simp only [List.length_take,List.length_cons,List.length_nil];omega)]
   simp only [Option.bind_some]
   rw [w64 (by omega) (by omega)]
   have:=ih (i + 1) (by omega) (by omega)
   rw [List.take_add_one,List.getElem?_eq_getElem hl] at this
   exact this
 exact key _ 0 rfl (Nat.zero_le _)
theorem zjX (s z own:TScope) (x:ByteArray) (acc:List TBinding) (i:Nat) (hi:i<=s.Vars.length) (h:s.Vars.length<=1048576) (ha:acc.length<=1048577) :
  zci x s z own acc (i:Int)=some (if (acc++s.Vars.drop i).length > 40 then (zuO,6) else (TScope.mk (acc++s.Vars.drop i) own.Functions own.Types,0)):=by
 unfold zci subL
 rw [if_pos (by omega)]
 simp only [Option.bind_eq_bind,Option.bind_some,Int.toNat_natCast]
 rw [zcx (by unfold most;rw [List.length_drop];omega)]
 simp only [Option.bind_some]
 by_cases hl:(acc++s.Vars.drop i).length > 40
 ·rw [if_pos hl,if_pos (by omega)];rfl
 ·rw [if_neg hl,if_neg (by omega)]
theorem zne (s z own:TScope) (x:ByteArray) (acc:List TBinding) (h:s.Vars.length<=1048576) (ha:acc.length<=1048577) :
  zcZ x s z own acc ((pos bnm s.Vars x:Nat):Int)=some (if (acc++s.Vars.drop (if zfF bnm s.Vars x=true then pos bnm s.Vars x + 1 else pos bnm s.Vars x)).length > 40 then (zuO,6) else (TScope.mk (acc++s.Vars.drop (if zfF bnm s.Vars x=true then pos bnm s.Vars x + 1 else pos bnm s.Vars x)) own.Functions own.Types,0)):=by
 have hp:=zjx bnm s.Vars x
 unfold zcZ
 by_cases hl:pos bnm s.Vars x<s.Vars.length
 ·have hg:=List.getElem?_eq_getElem hl
  rw [if_pos (by omega),zao,hg]
  simp only [Option.bind_eq_bind,Option.bind_some]
  by_cases he:(s.Vars[pos bnm s.Vars x]).Name=x
  ·have hh:zfF bnm s.Vars x=true:=by unfold zfF;rw [hg];exact decide_eq_true he
   rw [if_pos he,if_pos hh,w64 (by omega) (by omega),show ((pos bnm s.Vars x:Nat):Int) + 1=((pos bnm s.Vars x + 1:Nat):Int) by omega,zjX s z own x acc _ (by omega) h ha];rfl
  ·have hh:¬ zfF bnm s.Vars x=true:=by unfold zfF;rw [hg];simp [he]
   rw [if_neg he,if_neg hh,zjX s z own x acc _ (by omega) h ha];rfl
 ·have hh:¬ zfF bnm s.Vars x=true:=fun e=>hl (zic e)
  rw [if_neg (by omega),if_neg hh,zjX s z own x acc _ (by omega) h ha];rfl
theorem zoj (s:TScope) (x:ByteArray) (v:TValue) (h:TScope.n s<=1048576) (hS:Srt bnm s.Vars):zgf s x v=some (asg s x v):=by
 have h':=h
 simp only [TScope.n] at h'
 have hp:=zjx bnm s.Vars x
 unfold zgf
 rw [zpp s h]
 simp only [Option.bind_eq_bind,Option.bind_some]
 rw [zqu s _ _ x v (by omega) hS,zjO]
 simp only [Option.bind_some]
 unfold asg asgL
 by_cases hv:ziL v=true
 ·rw [if_pos hv,if_pos hv,zne s _ _ x _ (by omega) (by rw [List.length_take];omega),List.nil_append]
 ·rw [if_neg hv,if_neg hv,zcx (by unfold most;simp only [List.length_take,List.length_cons,List.length_nil];omega)]
  simp only [Option.bind_some]
  rw [zne s _ _ x _ (by omega) (by simp only [List.length_append,List.length_take,List.length_cons,List.length_nil];omega)]
  simp only [List.append_assoc]
theorem ziZ {α:Type} (f:α->Nat) (a b:List α):lsum f (a++b)=lsum f a + lsum f b:=by
 induction a with
 | nil=>rw [List.nil_append,zcl,Nat.zero_add]
 | cons x r ih=>rw [List.cons_append,zag,zag,ih,Nat.add_assoc]
theorem ztM {α:Type} (f:α->Nat) (xs:List α) (i:Nat):lsum f (xs.take i) + lsum f (xs.drop i)=lsum f xs:=by
 rw [<- ziZ,List.take_append_drop]
theorem ztN {α:Type} (f:α->Nat) (xs:List α) (i:Nat):lsum f (xs.drop (i + 1))<=lsum f (xs.drop i):=by
 have:=ztM f (xs.drop i) 1
 rw [List.drop_drop] at this
 omega
theorem ztO (xs:List TBinding) (x:ByteArray) (v:TValue):lsum TBinding.n (asgL xs x v)<=lsum TBinding.n xs + TBinding.n (TBinding.mk x v):=by
 have h1:=ztM TBinding.n xs (pos bnm xs x)
 have h2:=ztN TBinding.n xs (pos bnm xs x)
 unfold asgL
 rw [ziZ,ziZ]
 have h3:lsum TBinding.n (if ziL v=true then [] else [TBinding.mk x v])<=TBinding.n (TBinding.mk x v):=by
  split
  ·rw [zcl];omega
  ·rw [zag,zcl];omega
 by_cases hh:zfF bnm xs x=true
 ·rw [if_pos hh];omega
 ·rw [if_neg hh];omega
theorem zuP (s:TScope) (x:ByteArray) (v:TValue):TScope.n (asg s x v).1<=TScope.n s + TBinding.n (TBinding.mk x v) + 1:=by
 have h1:=ztO s.Vars x v
 have h2:=zps s.Vars x v
 have h3:(asgL s.Vars x v).length<=s.Vars.length + 1:=by rw [h2];split <;> split <;> omega
 unfold asg
 split
 ·have:TScope.n zuO=0:=by decide
  rw [this];omega
 ·simp only [TScope.n];omega
end Go.Vx.WvZ

