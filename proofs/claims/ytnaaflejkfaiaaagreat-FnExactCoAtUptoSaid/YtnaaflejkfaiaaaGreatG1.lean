/-
  Expressions, cursors and co-expressions: a copy is the thing itself, on both sides.
-/
import Derived.Test.YtnaaflejkfaiaaaGreatDef
import Derived.Test.YtnaaflejkfaiaaaGreatVxD
set_option linter.unusedVariables false
set_option linter.unusedSimpArgs false
namespace Go.Vx.CpZ
set_option linter.unusedVariables false
theorem zeI {α:Type} (f:α→Nat) (xs:List α) {a:α} (h:a ∈ xs):f a≤lsum f xs:=by
 induction xs with
 | nil=>cases h
 | cons x r ih =>
  rw [zae]
  rcases List.mem_cons.1 h with rfl|h
  ·omega
  ·have:=ih h;omega
theorem zhW {α β:Type} (xs:List α) (hx:xs.length≤1048576) (C:α→Option α) (hC:∀ a ∈ xs,C a=some a) (F:List α→β) (L:List α→Int→Option β)
  (hL:∀ acc i,L acc i=if i<(xs.length:Int) then idx xs i >>= fun a=>C a >>= fun r=>app acc [r] >>= fun c=>L c (IntKind.wrap .i64 (i + 1)) else some (F acc)):L [] 0=some (F xs):=by
 have key:=zdE xs (fun i rest=>∀ acc:List α,acc.length=i→L acc (i:Int)=some (F (acc++rest))) ?_ ?_
 ·exact key [] rfl
 ·intro acc ha
  rw [hL,if_neg (by omega),List.append_nil]
 ·intro i a rest hi hg hd ih acc ha
  rw [hL,if_pos (by omega),zaq,hg]
  simp only [Option.bind_eq_bind,Option.bind_some]
  rw [hC a (List.mem_of_getElem? hg)]
  simp only [Option.bind_some]
  rw [zpT (by unfold most;simp only [List.length_cons,List.length_nil];omega),w64 (by omega) (by omega)]
  simp only [Option.bind_some]
  have:=ih (acc++[a]) (by simp;omega)
  rw [show ((i:Int) + 1)=((i + 1:Nat):Int) by omega,this,List.append_assoc];rfl
abbrev zg:TGen:=TGen.mk 0 0 ByteArray.empty (TValue.mk 0 0 ByteArray.empty 0) []
theorem zsm:∀ x:TGen,TGen.n x≤1048576→zcn x=some x:=by
 refine TGen.ind fun x ih h=>?_
 rw [TGen.n_eq] at h
 rw [zcn.eq_1]
 have:=zhW x.Kids (by omega) zcn (fun a ha=>ih a ha (by have:=zeI TGen.n x.Kids ha;omega)) id (fun acc i=>zaV x zg acc x.Kids x.Kids.length i) (fun acc i=>zaV.eq_1 ..)
 rw [this]
 cases x;rfl
theorem ztp:∀ x:TGen,TGen.n x≤1048576→zda x=some x:=by
 refine TGen.ind fun x ih h=>?_
 rw [TGen.n_eq] at h
 rw [zda.eq_1]
 have:=zhW x.Kids (by omega) zda (fun a ha=>ih a ha (by have:=zeI TGen.n x.Kids ha;omega)) (fun acc=>TGen.mk x.Kind x.Num x.Text x.Value acc) (fun acc i=>zbh x zg (TGen.mk x.Kind x.Num x.Text x.Value acc) i) (fun acc i=>zbh.eq_1 ..)
 rw [this]
 cases x;rfl
abbrev zc:TCursor:=TCursor.mk 0 0 [] []
theorem zsn:∀ x:TCursor,TCursor.n x≤1048576→zbo x=some x:=by
 refine TCursor.ind fun x ih h=>?_
 rw [TCursor.n_eq] at h
 rw [zbo.eq_1]
 have:=zhW x.Kids (by omega) zbo (fun a ha=>ih a ha (by have:=zeI TCursor.n x.Kids ha;omega)) id (fun acc i=>zaB x zc acc x.Kids x.Kids.length i) (fun acc i=>zaB.eq_1 ..)
 rw [this]
 unfold zbp
 simp only [Option.bind_eq_bind,Option.bind_some]
 rw [zhA (show x.Vals.length≤most by unfold most;omega)]
 cases x;rfl
theorem ztq:∀ x:TCursor,TCursor.n x≤1048576→zbA x=some x:=by
 refine TCursor.ind fun x ih h=>?_
 rw [TCursor.n_eq] at h
 rw [zbA.eq_1]
 unfold zfH
 rw [zhA (show x.Vals.length≤most by unfold most;omega)]
 simp only [Option.bind_eq_bind,Option.bind_some]
 have:=zhW x.Kids (by omega) zbA (fun a ha=>ih a ha (by have:=zeI TCursor.n x.Kids ha;omega)) (fun acc=>TCursor.mk x.Phase x.Count x.Vals acc) (fun acc i=>zaH x zc (TCursor.mk x.Phase x.Count x.Vals acc) i) (fun acc i=>zaH.eq_1 ..)
 rw [this]
 cases x;rfl
theorem ztr (x:TCoexpr) (h:TCoexpr.n x≤1048576):zer x=some x:=by
 simp only [TCoexpr.n] at h
 unfold zer zaC
 rw [zsm _ (by omega),zsn _ (by omega),zhA (show x.Start.length≤most by unfold most;omega),zhA (show x.Vars.length≤most by unfold most;omega)]
 rfl
theorem zxv (x:TCoexpr) (h:TCoexpr.n x≤1048576):zhf x=some x:=by
 simp only [TCoexpr.n] at h
 unfold zhf zfz
 rw [ztp _ (by omega),ztq _ (by omega),zhA (show x.Start.length≤most by unfold most;omega),zhA (show x.Vars.length≤most by unfold most;omega)]
 rfl
end Go.Vx.CpZ
