/-
  Expressions, cursors and co-expressions: a copy is the thing itself, on both sides.
-/
import Derived.Test.YtnaaflejkfaiaaaGreatDef
import Derived.Test.YtnaaflejkfaiaaaGreatVxD
set_option linter.unusedVariables false
set_option linter.unusedSimpArgs false
namespace Go.Vx.CrZ
set_option linter.unusedVariables false
theorem zeR {α:Type} (f:α→Nat) (xs:List α) {a:α} (h:a ∈ xs):f a≤lsum f xs:=by
 induction xs with
 | nil=>cases h
 | cons x r ih =>
  rw [zae]
  rcases List.mem_cons.1 h with rfl|h
  ·omega
  ·have:=ih h;omega
theorem zfb {α β:Type} (xs:List α) (hx:xs.length≤1048576) (C:α→Option α) (hC:∀ a ∈ xs,C a=some a) (F:List α→β) (L:List α→Int→Option β)
  (hL:∀ acc i,L acc i=if i<(xs.length:Int) then idx xs i >>= fun a=>C a >>= fun r=>app acc [r] >>= fun c=>L c (IntKind.wrap .i64 (i + 1)) else some (F acc)):L [] 0=some (F xs):=by
 have key:=zeh xs (fun i rest=>∀ acc:List α,acc.length=i→L acc (i:Int)=some (F (acc++rest))) ?_ ?_
 ·exact key [] rfl
 ·intro acc ha
  rw [hL,if_neg (by omega),List.append_nil]
 ·intro i a rest hi hg hd ih acc ha
  rw [hL,if_pos (by omega),zar,hg]
  simp only [Option.bind_eq_bind,Option.bind_some]
  rw [hC a (List.mem_of_getElem? hg)]
  simp only [Option.bind_some]
  rw [zne (by unfold most;simp only [List.length_cons,List.length_nil];omega),w64 (by omega) (by omega)]
  simp only [Option.bind_some]
  have:=ih (acc++[a]) (by simp;omega)
  rw [show ((i:Int) + 1)=((i + 1:Nat):Int) by omega,this,List.append_assoc];rfl
abbrev zg:TGen:=TGen.mk 0 0 ByteArray.empty (TValue.mk 0 0 ByteArray.empty 0) []
theorem zmD:∀ x:TGen,TGen.n x≤1048576→zcq x=some x:=by
 refine TGen.ind fun x ih h=>?_
 rw [TGen.n_eq] at h
 rw [zcq.eq_1]
 have:=zfb x.Kids (by omega) zcq (fun a ha=>ih a ha (by have:=zeR TGen.n x.Kids ha;omega)) id (fun acc i=>zaW x zg acc x.Kids x.Kids.length i) (fun acc i=>zaW.eq_1 ..)
 rw [this]
 cases x;rfl
theorem zoG:∀ x:TGen,TGen.n x≤1048576→zct x=some x:=by
 refine TGen.ind fun x ih h=>?_
 rw [TGen.n_eq] at h
 rw [zct.eq_1]
 have:=zfb x.Kids (by omega) zct (fun a ha=>ih a ha (by have:=zeR TGen.n x.Kids ha;omega)) (fun acc=>TGen.mk x.Kind x.Num x.Text x.Value acc) (fun acc i=>zbh x zg (TGen.mk x.Kind x.Num x.Text x.Value acc) i) (fun acc i=>zbh.eq_1 ..)
 rw [this]
 cases x;rfl
abbrev zc:TCursor:=TCursor.mk 0 0 [] []
theorem zmE:∀ x:TCursor,TCursor.n x≤1048576→zbo x=some x:=by
 refine TCursor.ind fun x ih h=>?_
 rw [TCursor.n_eq] at h
 rw [zbo.eq_1]
 have:=zfb x.Kids (by omega) zbo (fun a ha=>ih a ha (by have:=zeR TCursor.n x.Kids ha;omega)) id (fun acc i=>zaD x zc acc x.Kids x.Kids.length i) (fun acc i=>zaD.eq_1 ..)
 rw [this]
 unfold zaw
 simp only [Option.bind_eq_bind,Option.bind_some]
 rw [zdS (show x.Vals.length≤most by unfold most;omega)]
 cases x;rfl
theorem ztQ:∀ x:TCursor,TCursor.n x≤1048576→zbA x=some x:=by
 refine TCursor.ind fun x ih h=>?_
 rw [TCursor.n_eq] at h
 rw [zbA.eq_1]
 unfold zcR
 rw [zdS (show x.Vals.length≤most by unfold most;omega)]
 simp only [Option.bind_eq_bind,Option.bind_some]
 have:=zfb x.Kids (by omega) zbA (fun a ha=>ih a ha (by have:=zeR TCursor.n x.Kids ha;omega)) (fun acc=>TCursor.mk x.Phase x.Count x.Vals acc) (fun acc i=>zaH x zc (TCursor.mk x.Phase x.Count x.Vals acc) i) (fun acc i=>zaH.eq_1 ..)
 rw [this]
 cases x;rfl
theorem zoH (x:TCoexpr) (h:TCoexpr.n x≤1048576):zbp x=some x:=by
 simp only [TCoexpr.n] at h
 unfold zbp zak
 rw [zmD _ (by omega),zmE _ (by omega),zdS (show x.Start.length≤most by unfold most;omega),zdS (show x.Vars.length≤most by unfold most;omega)]
 rfl
theorem zye (x:TCoexpr) (h:TCoexpr.n x≤1048576):zgh x=some x:=by
 simp only [TCoexpr.n] at h
 unfold zgh zbV
 rw [zoG _ (by omega),ztQ _ (by omega),zdS (show x.Start.length≤most by unfold most;omega),zdS (show x.Vars.length≤most by unfold most;omega)]
 rfl
end Go.Vx.CrZ
