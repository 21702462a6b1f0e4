/-
  FnExactWriteVariable: for every input of bulk at most 1048576 the law returns true, and each argument reads as it read before.
-/
import Derived.Test.YtapepbhnleekbaaGreatDoorRows
import Derived.Test.YtapepbhnleekbaaGreatDoorComp
import Derived.Test.YtapepbhnleekbaaGreatDoorOf
import Derived.Test.YtapepbhnleekbaaGreatDoorLaw
import Derived.WalkKit
import Derived.ProofKit
import Derived.OpenShut
import Derived.ShutString
import Derived.ChangeOld
import Derived.Below
import Derived.SizedLaws
import Derived.JoinedCond
set_option linter.unusedVariables false
set_option linter.unusedSimpArgs false
namespace Go.Proofs.YtapepbhnleekbaaGreatDoor.fnExactWriteVariable
open Go.ChangeShapes Go.WideShapes Go.ChangeAt Go.RowKit Go.Vx
open Go.ChangeMaps (open_string shut_string)
theorem own:ownKnob Tryz.prog.godebug=none:=by kernel_rfl
theorem zom:laidOutB Tryz.prog=true:=by kernel_rfl
theorem zon {H:Type}:∀ l:List (DataW H),Rows.uptoBulkAll l=(l.map Rows.uptoBulk).sum
 | []=>by simp [Rows.uptoBulkAll]
 | d::r=>by simp only [Rows.uptoBulkAll,zon r,List.map_cons,List.sum_cons]
theorem hub {H:Type}:UB (Rows.uptoBulk (H:=H)) where
 lit:=fun l=>by cases l <;> simp [Rows.uptoBulk]
 str:=fun b=>by simp [Rows.uptoBulk]
 nil:=by simp [Rows.uptoBulk]
 slice:=fun es sp=>by rw [Rows.uptoBulk,zon];omega
 agg:=fun ps=>by rw [Rows.uptoBulk,zon];omega
def ext (t:Nat):Option Nat:=none
theorem exOK:ExOK Tryz.prog ext ExP:=fun _ _ h=>by cases h
theorem hm:Tryz.prog.follows .mixedOrders=true:=by kernel_rfl
set_option maxRecDepth 100000 in
theorem zuV (H:Type) (enc:TypeId × Value->H) (W:World) (base:Nat) (args:Array Value) (ds gs:List (DataW H)) (before:List MemPlace)
  (hval0:∀ (j:Nat) t v,Tryz.f3.params[j]? = some t->args[j]? = some v->Value.okWide Tryz.prog W .any base t v)
  (hW:DataW.Whole enc Tryz.prog Tryz.f3.params.toList Rows.fnExactWriteVariableSpec.vars false W args.toList ds gs before) (hk0:Rows.uptoSmall H (ds++gs)=true) (hP:zpA Tryz.prog W) :
  Calls Tryz.prog 3 args W fun e W'=>∃ v,e=.returned v∧Rows.fnExactWriteVariableSpec.post enc Tryz.prog Tryz.f3 false true false false W args v W':=by
 have hval:∀ (j:Nat) t v,Tryz.f3.params[j]? = some t->args[j]? = some v->Value.okWide Tryz.prog W .any base t v:=hval0
 have hW':=hW
 obtain ⟨p,q,hA0,hV,rfl,hfz,hnd⟩:=hW
 have hA:DataW.TrodAll enc Tryz.prog W 0 (fun _=>true) true Tryz.f3.params.toList args.toList ds p:=hA0
 rw [Tryz.params3] at hA hval
 obtain ⟨v0,vs0,d0,ds0,p0,q0,hargs,rfl,rfl,h0,r0⟩:=trodAll_cons hA
 obtain ⟨v1,vs1,d1,ds1,p1,q1,rfl,rfl,rfl,h1,r1⟩:=trodAll_cons r0
 obtain ⟨v2,vs2,d2,ds2,p2,q2,rfl,rfl,rfl,h2,r2⟩:=trodAll_cons r1
 obtain ⟨rfl,rfl,rfl⟩:=trodAll_nil r2
 obtain rfl:args = #[v0,v1,v2]:=by cases args;simp_all
 obtain ⟨rfl,rfl⟩:=trodVars_none hV
 have hk:Rows.uptoBulkAll (([d0,d1,d2]:List (DataW H))++[])<=1048576:=of_decide_eq_true hk0
 simp only [List.append_nil,Rows.uptoBulkAll] at hk
 have k0:=h0
 have lt0:∀ x ∈ p0,x.block<W.heap.size:=by obtain ⟨m,hm⟩:=k0;exact DataW.trod_lt m _ _ _ hm
 obtain ⟨c0,e0,y0,b0⟩:=zkH exOK hub Tryz.underlying35 (show tyOf Tryz.prog ext 20 35=some TMemory.ty by kernel_rfl) (hval 0 35 v0 rfl rfl) h0
 obtain ⟨x0,rfl,z0⟩:=TMemory.of c0 y0
 have k1:=h1
 have lt1:∀ x ∈ p1,x.block<W.heap.size:=by obtain ⟨m,hm⟩:=k1;exact DataW.trod_lt m _ _ _ hm
 obtain ⟨x1,e1,b1⟩:=zpL exOK hub Tryz.underlying9 (by kernel_rfl) (hval 1 9 v1 rfl rfl) h1
 have k2:=h2
 have lt2:∀ x ∈ p2,x.block<W.heap.size:=by obtain ⟨m,hm⟩:=k2;exact DataW.trod_lt m _ _ _ hm
 obtain ⟨c2,e2,y2,b2⟩:=zkH exOK hub Tryz.underlying37 (show tyOf Tryz.prog ext 20 37=some TValue.ty by kernel_rfl) (hval 2 37 v2 rfl rfl) h2
 obtain ⟨x2,rfl,z2⟩:=TValue.of c2 y2
 refine (zrf (Go.Vx.WvZ.hok hm) (vs:=[v0,v1,v2]) (.cons _ _ _ _ e0 (.cons _ _ _ _ e1 (.cons _ _ _ _ e2 ArgsOK.nil))) hP (Go.Vx.WvZ.law x0 x1 x2 (by omega) (by omega) (by omega) (by omega))).mono fun e W' ⟨he,bel⟩=>?_
 subst he
 exact ⟨_,rfl,_,_,_,[],_,[],hW',trodAll_mk1 (shut_bool Tryz.underlying4 _),(trodAll_cons_mk (Below.trod zom (by kernel_rfl) (of_decide_eq_true (by kernel_rfl)) k0 bel lt0) (trodAll_cons_mk (Below.trod zom (by kernel_rfl) (of_decide_eq_true (by kernel_rfl)) k1 bel lt1) (trodAll_cons_mk (Below.trod zom (by kernel_rfl) (of_decide_eq_true (by kernel_rfl)) k2 bel lt2) trodAll_mk0))),rfl,bel.frame _,fun h=>by cases h⟩
end Go.Proofs.YtapepbhnleekbaaGreatDoor.fnExactWriteVariable

