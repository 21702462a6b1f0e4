/-
  Expressions, cursors and co-expressions: a copy is the thing itself, on both sides.
-/
import Derived.Test.YtnaaflejkfaiaaaGreatDef
import Derived.Test.YtnaaflejkfaiaaaGreatVxD
set_option linter.unusedVariables false
set_option linter.unusedSimpArgs false
namespace Go.Vx.RmZ
theorem zeU {α:Type} (f:α->Nat) (xs:List α) {a:α} (h:a ∈ xs):f a<=lsum f xs:=by
 induction xs with
 | nil=>cases h
 | cons x r ih =>
  rw [zae]
  rcases List.mem_cons.1 h with rfl|h
  ·omega
  ·have:=ih h;omega
theorem zff {α β:Type} (xs:List α) (hx:xs.length<=1048576) (C:α->Option α) (hC:∀ a ∈ xs,C a=some a) (F:List α->β) (L:List α->Int->Option β)
  (hL:∀ acc i,L acc i=if i<(xs.length:Int) then idx xs i >>= fun a=>C a >>= fun r=>app acc [r] >>= fun c=>L c (IntKind.wrap .i64 (i + 1)) else some (F acc)):L [] 0=some (F xs):=by
 have key:=zdP xs (fun i rest=>∀ acc:List α,acc.length=i->L acc (i:Int)=some (F (acc++rest))) ?_ ?_
 ·exact key [] rfl
 ·intro acc ha
  rw [hL,if_neg (by omega),List.append_nil]
 ·intro i a rest hi hg hd ih acc ha
  rw [hL,if_pos (by omega),zat,hg]
  simp only [Option.bind_eq_bind,Option.bind_some]
  rw [hC a (List.mem_of_getElem? hg)]
  simp only [Option.bind_some]
  rw [zrf (by unfold most;simp only [List.length_cons,List.length_nil];omega),w64 (by omega) (by omega)]
  simp only [Option.bind_some]
  have:=ih (acc++[a]) (by simp;omega)
  rw [show ((i:Int) + 1)=((i + 1:Nat):Int) by omega,this,List.append_assoc];rfl
abbrev zg:TGen:=TGen.mk 0 0 ByteArray.empty (TValue.mk 0 0 ByteArray.empty 0) []
theorem ztC:∀ x:TGen,TGen.n x<=1048576->zcp x=some x:=by
 refine TGen.ind fun x ih h=>?_
 rw [TGen.n_eq] at h
 rw [zcp.eq_1]
 have:=zff x.Kids (by omega) zcp (fun a ha=>ih a ha (by have:=zeU TGen.n x.Kids ha;omega)) id (fun acc i=>zaZ x zg acc x.Kids x.Kids.length i) (fun acc i=>zaZ.eq_1 ..)
 rw [this]
 cases x;rfl
theorem zuN:∀ x:TGen,TGen.n x<=1048576->zdf x=some x:=by
 refine TGen.ind fun x ih h=>?_
 rw [TGen.n_eq] at h
 rw [zdf.eq_1]
 have:=zff x.Kids (by omega) zdf (fun a ha=>ih a ha (by have:=zeU TGen.n x.Kids ha;omega)) (fun acc=>TGen.mk x.Kind x.Num x.Text x.Value acc) (fun acc i=>zbi x zg (TGen.mk x.Kind x.Num x.Text x.Value acc) i) (fun acc i=>zbi.eq_1 ..)
 rw [this]
 cases x;rfl
abbrev zc:TCursor:=TCursor.mk 0 0 [] []
theorem ztD:∀ x:TCursor,TCursor.n x<=1048576->zbo x=some x:=by
 refine TCursor.ind fun x ih h=>?_
 rw [TCursor.n_eq] at h
 rw [zbo.eq_1]
 have:=zff x.Kids (by omega) zbo (fun a ha=>ih a ha (by have:=zeU TCursor.n x.Kids ha;omega)) id (fun acc i=>zaJ x zc acc x.Kids x.Kids.length i) (fun acc i=>zaJ.eq_1 ..)
 rw [this]
 unfold zaz
 simp only [Option.bind_eq_bind,Option.bind_some]
 rw [zdX (show x.Vals.length<=most by unfold most;omega)]
 cases x;rfl
theorem zuO:∀ x:TCursor,TCursor.n x<=1048576->zbB x=some x:=by
 refine TCursor.ind fun x ih h=>?_
 rw [TCursor.n_eq] at h
 rw [zbB.eq_1]
 unfold zcR
 rw [zdX (show x.Vals.length<=most by unfold most;omega)]
 simp only [Option.bind_eq_bind,Option.bind_some]
 have:=zff x.Kids (by omega) zbB (fun a ha=>ih a ha (by have:=zeU TCursor.n x.Kids ha;omega)) (fun acc=>TCursor.mk x.Phase x.Count x.Vals acc) (fun acc i=>zaN x zc (TCursor.mk x.Phase x.Count x.Vals acc) i) (fun acc i=>zaN.eq_1 ..)
 rw [this]
 cases x;rfl
theorem zuP (x:TCoexpr) (h:TCoexpr.n x<=1048576):zdk x=some x:=by
 simp only [TCoexpr.n] at h
 unfold zdk zar
 rw [ztC _ (by omega),ztD _ (by omega),zdX (show x.Start.length<=most by unfold most;omega),zdX (show x.Vars.length<=most by unfold most;omega)]
 rfl
theorem zzd (x:TCoexpr) (h:TCoexpr.n x<=1048576):zgn x=some x:=by
 simp only [TCoexpr.n] at h
 unfold zgn zef
 rw [zuN _ (by omega),zuO _ (by omega),zdX (show x.Start.length<=most by unfold most;omega),zdX (show x.Vars.length<=most by unfold most;omega)]
 rfl
end Go.Vx.RmZ

