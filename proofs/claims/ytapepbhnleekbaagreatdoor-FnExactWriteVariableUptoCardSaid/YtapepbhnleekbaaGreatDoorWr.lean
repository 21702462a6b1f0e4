/-
  A variable is written, both sides.
-/
import Derived.Test.YtapepbhnleekbaaGreatDoorMc
import Derived.Test.YtapepbhnleekbaaGreatDoorA8r
import Derived.Test.YtapepbhnleekbaaGreatDoorDg
set_option linter.unusedVariables false
set_option linter.unusedSimpArgs false
namespace Go.Vx.WvZ
open Classical
abbrev zM:TMemory:=TMemory.mk (THeap.mk 0 []) (TScope.mk [] [] []) (TConsole.mk [] 0 [] [] [])
abbrev setO (c:TConsole) (l:List ByteArray):TConsole:=TConsole.mk c.Input c.At l c.Files c.Trace
theorem zlX (l:List ByteArray) (h:l.length<=1048576):zdZ l=some l:=by
 unfold zdZ
 rw [zaJ (show l.length<=most by unfold most;omega)]
 rfl
theorem zuS (c:TConsole) (h:TConsole.n c<=1048576):ziV c=some c:=by
 obtain ⟨q1,q2,q3,q4,q5⟩:=zgl c h
 unfold ziV
 rw [zlX _ q1,zlX _ q2,zlX _ q3]
 simp only [Option.bind_eq_bind,Option.bind_some]
 have key:=zbD c.Files (fun i rest=>∀ d:List TFile,d.length=i->zge c (TConsole.mk [] 0 [] [] []) (TConsole.mk c.Input c.At c.Output d c.Trace) (i:Int)=some (TConsole.mk c.Input c.At c.Output (d++rest) c.Trace)) ?_ ?_
 ·have:=key [] rfl
  rw [show ((0:Nat):Int)=0 from rfl] at this
  rw [this];rfl
 ·intro d hd;rw [zge.eq_1,if_neg (by omega)];simp
 ·intro i a rest hi hg hd ih d hdl
  have hm:a ∈ c.Files:=(List.getElem?_eq_some_iff.1 hg).2 ▸ List.getElem_mem hi
  have:=q5 a hm
  rw [zge.eq_1,if_pos (by omega),zao,hg]
  simp only [Option.bind_eq_bind,Option.bind_some]
  rw [zlX _ this]
  simp only [Option.bind_some]
  rw [zcx (by unfold most;simp only [List.length_cons,List.length_nil];omega)]
  simp only [Option.bind_some]
  rw [w64 (by omega) (by omega),show ((i:Int) + 1)=((i + 1:Nat):Int) by omega,ih (d++[a]) (by simp [hdl])]
  simp
noncomputable def wrV (m:TMemory) (x:ByteArray) (v:TValue):TMemory × Int :=
 if x=⟨#[73,78,80,85,84]⟩ then (zM,10)
 else if x=⟨#[79,85,84,80,85,84]⟩ then
  if (toT v).2=true then if (m.Console.Output.length:Int)=100 then (zM,6) else (TMemory.mk m.Heap m.Scope (setO m.Console (m.Console.Output++[(toT v).1])),0) else (zM,4)
 else if (asgL m.Scope.Vars x v).length > 40 then (zM,6) else (TMemory.mk m.Heap (TScope.mk (asgL m.Scope.Vars x v) m.Scope.Functions m.Scope.Types) m.Console,0)
theorem i_wr (m:TMemory) (x:ByteArray) (v:TValue) (h:TMemory.n m<=1048576) (hM:zjW m):zcv x m v zM=some (wrV m x v):=by
 obtain ⟨h1,h2,h3,h4,h5⟩:=zfv m h
 obtain ⟨q1,q2,q3,q4,q5⟩:=zgl m.Console h4
 unfold zcv zhu
 rw [ztL m h]
 simp only [Option.bind_eq_bind,Option.bind_some]
 unfold zcj wrV
 by_cases c1:x=⟨#[73,78,80,85,84]⟩
 ·rw [if_pos c1,if_pos c1];rfl
 ·rw [if_neg c1,if_neg c1]
  by_cases c2:x=⟨#[79,85,84,80,85,84]⟩
  ·rw [if_pos c2,if_pos c2,zuR v]
   simp only [Option.bind_eq_bind,Option.bind_some]
   by_cases c3:(toT v).2=true
   ·rw [if_pos c3,if_pos c3]
    unfold zdu
    simp only
    by_cases c4:(m.Console.Output.length:Int)=100
    ·rw [if_pos c4,if_pos c4];rfl
    ·rw [if_neg c4,if_neg c4,zcx (by unfold most;simp only [List.length_cons,List.length_nil];omega)]
     rfl
   ·rw [if_neg c3,if_neg c3];rfl
  ·rw [if_neg c2,if_neg c2,zoi x v _ hM.2.1.1.1 hM.2.1.2.1.1]
   simp only [Option.bind_eq_bind,Option.bind_some]
   by_cases c4:(asgL m.Scope.Vars x v).length > 40
   ·rw [if_pos c4,if_pos c4];rfl
   ·rw [if_neg c4,if_neg c4];rfl
theorem s_wr (m:TMemory) (x:ByteArray) (v:TValue) (h:TMemory.n m<=1048576) (hM:zjW m):zcn x m v zM=some (wrV m x v):=by
 obtain ⟨h1,h2,h3,h4,h5⟩:=zfv m h
 obtain ⟨q1,q2,q3,q4,q5⟩:=zgl m.Console h4
 unfold zcn
 rw [zuN m h]
 simp only [Option.bind_eq_bind,Option.bind_some]
 unfold zir wrV
 by_cases c1:x=⟨#[73,78,80,85,84]⟩
 ·rw [if_pos c1,if_pos c1];rfl
 ·rw [if_neg c1,if_neg c1]
  by_cases c2:x=⟨#[79,85,84,80,85,84]⟩
  ·rw [if_pos c2,if_pos c2,zuQ v]
   simp only [Option.bind_eq_bind,Option.bind_some]
   by_cases c3:(toT v).2=true
   ·rw [if_pos c3,if_pos c3]
    have hs:=zpr m.Console h4
    unfold zcW at hs
    rw [decide_eq_true hM.2.2.1] at hs
    unfold zhs zfA
    have hok:ziq m.Console=some true:=by
     cases ho:ziq m.Console with
     | none=>rw [ho] at hs;cases hs
     | some b=>rw [ho] at hs;exact hs
    have:=zpt v
    have h100:=hM.2.2.1.2.2.1.1
    rw [hok]
    simp only [Option.bind_eq_bind,Option.bind_some,if_true]
    rw [if_neg (by omega)]
    by_cases c4:(m.Console.Output.length:Int)=100
    ·rw [if_pos (by omega),if_pos c4];rfl
    ·rw [if_neg (by omega),if_neg c4,zuS m.Console h4]
     simp only [Option.bind_eq_bind,Option.bind_some]
     rw [zcx (by unfold most;simp only [List.length_cons,List.length_nil];omega)]
     rfl
   ·rw [if_neg c3,if_neg c3];rfl
  ·rw [if_neg c2,if_neg c2,zoj m.Scope x v h3 hM.2.1.2.1.1]
   simp only [Option.bind_eq_bind,Option.bind_some]
   unfold asg
   by_cases c4:(asgL m.Scope.Vars x v).length > 40
   ·rw [if_pos c4,if_pos c4];rfl
   ·rw [if_neg c4,if_neg c4];rfl
theorem zuT (m:TMemory) (x:ByteArray) (v:TValue) (h:TMemory.n m<=1048576) (hx:x.size<=1048576) (hv:TValue.n v<=1048576):TMemory.n (wrV m x v).1<=34359738368:=by
 have hz:TMemory.n zM<=34359738368:=by decide
 obtain ⟨h1,h2,h3,h4,h5⟩:=zfv m h
 unfold wrV
 split
 ·exact hz
 ·split
  ·split
   ·split
    ·exact hz
    ·have:=zpt v
     simp only [TMemory.n,TConsole.n] at h ⊢
     simp only [List.length_append,ziZ,zag,zcl,List.length_cons,List.length_nil]
     omega
   ·exact hz
  ·split
   ·exact hz
   ·rename_i c4
    have:=zuP m.Scope x v
    unfold asg at this
    rw [if_neg c4] at this
    simp only [TBinding.n,TMemory.n] at this h ⊢
    omega
end Go.Vx.WvZ

