/-
  A memory's copy is the memory, both sides.
-/
import Derived.Test.YtapepbhnleekbaaGreatDoorU2
import Derived.Test.YtapepbhnleekbaaGreatDoorCi
import Derived.Test.YtapepbhnleekbaaGreatDoorCs
set_option linter.unusedVariables false
set_option linter.unusedSimpArgs false
namespace Go.Vx.WvZ
open Classical
theorem zCs (c:TConsole) (h:TConsole.n c<=1048576):zdp c=some c:=by
 obtain ⟨q1,q2,q3,q4,q5⟩:=zgl c h
 unfold zdp zad
 rw [zaJ (show c.Input.length<=most by unfold most;omega),zaJ (show c.Output.length<=most by unfold most;omega),zaJ (show c.Trace.length<=most by unfold most;omega)]
 simp only [Option.bind_eq_bind,Option.bind_some]
 have key:=zbD c.Files (fun i rest=>∀ d:List TFile,d.length=i->zca c (TConsole.mk [] 0 [] [] []) c.Files c.Files.length (TConsole.mk c.Input c.At c.Output d c.Trace) (i:Int)=some (TConsole.mk c.Input c.At c.Output (d++rest) c.Trace)) ?_ ?_
 ·have:=key [] rfl
  rw [show ((0:Nat):Int)=0 from rfl] at this
  rw [this];rfl
 ·intro d hd;rw [zca.eq_1,if_neg (by omega)];simp
 ·intro i a rest hi hg hd ih d hdl
  have hm:a ∈ c.Files:=(List.getElem?_eq_some_iff.1 hg).2 ▸ List.getElem_mem hi
  have:=q5 a hm
  rw [zca.eq_1,if_pos (by omega),zao,hg]
  unfold zad
  simp only [Option.bind_eq_bind,Option.bind_some]
  rw [zaJ (show a.Lines.length<=most by unfold most;omega)]
  simp only [Option.bind_some]
  rw [zcx (by unfold most;simp only [List.length_cons,List.length_nil];omega)]
  simp only [Option.bind_some]
  rw [w64 (by omega) (by omega),show ((i:Int) + 1)=((i + 1:Nat):Int) by omega,ih (d++[a]) (by simp [hdl])]
  simp
theorem zCt (c:TConsole) (h:TConsole.n c<=1048576):zfs c=some c:=by
 obtain ⟨q1,q2,q3,q4,q5⟩:=zgl c h
 unfold zfs
 rw [zaJ (show c.Input.length<=most by unfold most;omega),zaJ (show c.Output.length<=most by unfold most;omega),zaJ (show c.Trace.length<=most by unfold most;omega)]
 simp only [Option.bind_eq_bind,Option.bind_some]
 have key:=zbD c.Files (fun i rest=>∀ d:List TFile,d.length=i->zdI c (TConsole.mk [] 0 [] [] []) (TConsole.mk c.Input c.At c.Output d c.Trace) (i:Int)=some (TConsole.mk c.Input c.At c.Output (d++rest) c.Trace)) ?_ ?_
 ·have:=key [] rfl
  rw [show ((0:Nat):Int)=0 from rfl] at this
  rw [this];rfl
 ·intro d hd;rw [zdI.eq_1,if_neg (by omega)];simp
 ·intro i a rest hi hg hd ih d hdl
  have hm:a ∈ c.Files:=(List.getElem?_eq_some_iff.1 hg).2 ▸ List.getElem_mem hi
  have:=q5 a hm
  rw [zdI.eq_1,if_pos (by omega),zao,hg]
  simp only [Option.bind_eq_bind,Option.bind_some]
  rw [zaJ (show a.Lines.length<=most by unfold most;omega)]
  simp only [Option.bind_some]
  rw [zcx (by unfold most;simp only [List.length_cons,List.length_nil];omega)]
  simp only [Option.bind_some]
  rw [w64 (by omega) (by omega),show ((i:Int) + 1)=((i + 1:Nat):Int) by omega,ih (d++[a]) (by simp [hdl])]
  simp
theorem zzK (x:THeap) (h:THeap.n x<=1048576) (hl:x.Objects.length<=1048576):zhP x=some x:=by
 unfold zhP
 have key:=zbD x.Objects (fun i rest=>∀ d:List TObject,d.length=i->zfq x (THeap.mk 0 []) (THeap.mk x.Next d) (i:Int)=some (THeap.mk x.Next (d++rest))) ?_ ?_
 ·have:=key [] rfl
  rw [show ((0:Nat):Int)=0 from rfl] at this
  rw [this];rfl
 ·intro d hd;rw [zfq.eq_1,if_neg (by omega)];simp
 ·intro i a rest hi hg hd ih d hdl
  have hm:a ∈ x.Objects:=(List.getElem?_eq_some_iff.1 hg).2 ▸ List.getElem_mem hi
  obtain ⟨hk,hv⟩:=hlen h hm
  rw [zfq.eq_1,if_pos (by omega),zao,hg]
  simp only [Option.bind_eq_bind,Option.bind_some]
  rw [zaJ (show a.Keys.length<=most by unfold most;omega),zaJ (show a.Vals.length<=most by unfold most;omega)]
  simp only [Option.bind_some]
  rw [zcx (by unfold most;simp only [List.length_cons,List.length_nil];omega)]
  simp only [Option.bind_some]
  rw [w64 (by omega) (by omega),show ((i:Int) + 1)=((i + 1:Nat):Int) by omega,ih (d++[a]) (by simp [hdl])]
  simp
theorem ztK (o:TObject) (h1:o.Keys.length<=1048576) (h2:o.Vals.length<=1048576):zdS o=some o:=by
 unfold zdS zaO
 rw [zaJ (show o.Keys.length<=most by unfold most;omega),zaJ (show o.Vals.length<=most by unfold most;omega)]
 rfl
theorem zqs (x:THeap) (h:THeap.n x<=1048576):zeI x=some x:=by
 have hl:x.Objects.length<=1048576:=by simp only [THeap.n] at h;omega
 unfold zeI
 have key:=zbD x.Objects (fun i rest=>∀ d:List TObject,d.length=i->zdo x (THeap.mk 0 []) x.Objects x.Objects.length (THeap.mk x.Next d) (i:Int)=some (THeap.mk x.Next (d++rest))) ?_ ?_
 ·have:=key [] rfl
  rw [show ((0:Nat):Int)=0 from rfl] at this
  rw [this];rfl
 ·intro d hd;rw [zdo.eq_1,if_neg (by omega)];simp
 ·intro i a rest hi hg hd ih d hdl
  have hm:a ∈ x.Objects:=(List.getElem?_eq_some_iff.1 hg).2 ▸ List.getElem_mem hi
  rw [zdo.eq_1,if_pos (by omega),zao,hg]
  simp only [Option.bind_eq_bind,Option.bind_some]
  rw [ztK a (hlen h hm).1 (hlen h hm).2]
  simp only [Option.bind_some]
  rw [zcx (by unfold most;simp only [List.length_cons,List.length_nil];omega)]
  simp only [Option.bind_some]
  rw [w64 (by omega) (by omega),show ((i:Int) + 1)=((i + 1:Nat):Int) by omega,ih (d++[a]) (by simp [hdl])]
  simp
theorem ztL (m:TMemory) (h:TMemory.n m<=1048576):zdT m=some m:=by
 obtain ⟨h1,h2,h3,h4,h5⟩:=zfv m h
 unfold zdT
 rw [zqs m.Heap h1,zoe m.Scope h3,zCs m.Console h4]
 rfl
theorem zuN (m:TMemory) (h:TMemory.n m<=1048576):ziT m=some m:=by
 obtain ⟨h1,h2,h3,h4,h5⟩:=zfv m h
 unfold ziT
 rw [zzK m.Heap h1 h2,zpp m.Scope h3,zCt m.Console h4]
 rfl
end Go.Vx.WvZ

