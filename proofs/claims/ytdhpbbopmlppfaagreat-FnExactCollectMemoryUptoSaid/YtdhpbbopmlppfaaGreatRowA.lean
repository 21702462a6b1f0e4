/-
  FnExactCollectMemory: for every input of bulk at most 1048576 the law returns true, and each argument reads as it read before.
-/
import Derived.Test.YtdhpbbopmlppfaaGreatRows
import Derived.Test.YtdhpbbopmlppfaaGreatComp
import Derived.Test.YtdhpbbopmlppfaaGreatOf
import Derived.Test.YtdhpbbopmlppfaaGreatLaw
import Derived.WalkKit
import Derived.ProofKit
import Derived.OpenShut
import Derived.ShutString
import Derived.ChangeOld
import Derived.Below
import Derived.SizedLaws
import Derived.JoinedCond
set_option linter.unusedVariables false
set_option linter.unusedSimpArgs false
namespace Go.Proofs.YtdhpbbopmlppfaaGreat.fnExactCollectMemory
open Go.ChangeShapes Go.WideShapes Go.ChangeAt Go.RowKit Go.Vx
open Go.ChangeMaps (open_string shut_string)
set_option linter.unusedVariables false
theorem own:ownKnob Tryz.prog.godebug=none:=by kernel_rfl
theorem zza:laidOutB Tryz.prog=true:=by kernel_rfl
theorem znK {H:Type}:∀ l:List (DataW H),Rows.uptoBulkAll l=(l.map Rows.uptoBulk).sum
 | []=>by simp [Rows.uptoBulkAll]
 | d::r=>by simp only [Rows.uptoBulkAll,znK r,List.map_cons,List.sum_cons]
theorem hub {H:Type}:UB (Rows.uptoBulk (H:=H)) where
 lit:=fun l=>by cases l <;> simp [Rows.uptoBulk]
 str:=fun b=>by simp [Rows.uptoBulk]
 nil:=by simp [Rows.uptoBulk]
 slice:=fun es sp=>by rw [Rows.uptoBulk,znK];omega
 agg:=fun ps=>by rw [Rows.uptoBulk,znK];omega
def ext (t:Nat):Option Nat:=none
theorem exOK:ExOK Tryz.prog ext ExP:=fun _ _ h=>by cases h
theorem hm:Tryz.prog.follows .mixedOrders=true:=by kernel_rfl
set_option maxRecDepth 100000 in
theorem zuo (H:Type) (enc:TypeId × Value→H) (W:World) (base:Nat) (args:Array Value) (ds gs:List (DataW H)) (before:List MemPlace)
  (hval0:∀ (j:Nat) t v,Tryz.f3.params[j]? = some t→args[j]? = some v→Value.okWide Tryz.prog W .any base t v)
  (hW:DataW.Whole enc Tryz.prog Tryz.f3.params.toList Rows.fnExactCollectMemorySpec.vars false W args.toList ds gs before) (hk0:Rows.uptoSmall H (ds++gs)=true) :
  Calls Tryz.prog 3 args W fun e W'=>∃ v,e=.returned v∧Rows.fnExactCollectMemorySpec.post enc Tryz.prog Tryz.f3 false true false false W args v W':=by
 have hval:∀ (j:Nat) t v,Tryz.f3.params[j]? = some t→args[j]? = some v→Value.okWide Tryz.prog W .any base t v:=hval0
 have hW':=hW
 obtain ⟨p,q,hA0,hV,rfl,hfz,hnd⟩:=hW
 have hA:DataW.TrodAll enc Tryz.prog W 0 (fun _=>true) true Tryz.f3.params.toList args.toList ds p:=hA0
 rw [Tryz.params3] at hA hval
 obtain ⟨v0,vs0,d0,ds0,p0,q0,hargs,rfl,rfl,h0,r0⟩:=trodAll_cons hA
 obtain ⟨rfl,rfl,rfl⟩:=trodAll_nil r0
 obtain rfl:args = #[v0]:=by cases args;simp_all
 obtain ⟨rfl,rfl⟩:=trodVars_none hV
 have hk:Rows.uptoBulkAll (([d0]:List (DataW H))++[])≤1048576:=of_decide_eq_true hk0
 simp only [List.append_nil,Rows.uptoBulkAll] at hk
 have k0:=h0
 have lt0:∀ x ∈ p0,x.block<W.heap.size:=by obtain ⟨m,hm⟩:=k0;exact DataW.trod_lt m _ _ _ hm
 obtain ⟨c0,e0,y0,b0⟩:=zpk exOK hub Tryz.underlying35 (show tyOf Tryz.prog ext 20 35=some TMemory.ty by kernel_rfl) (hval 0 35 v0 rfl rfl) h0
 obtain ⟨x0,rfl,z0⟩:=TMemory.of c0 y0
 refine (zqA (Go.Vx.CmZ.hok hm) (vs:=[v0]) (.cons _ _ _ _ e0 ArgsOK.nil) (Go.Vx.CmZ.law x0 (by omega) (by omega))).mono fun e W' ⟨he,bel⟩=>?_
 subst he
 exact ⟨_,rfl,_,_,_,[],_,[],hW',trodAll_mk1 (shut_bool Tryz.underlying4 _),(trodAll_cons_mk (Below.trod zza (by kernel_rfl) (of_decide_eq_true (by kernel_rfl)) k0 bel lt0) trodAll_mk0),rfl,bel.frame _,fun h=>by cases h⟩
end Go.Proofs.YtdhpbbopmlppfaaGreat.fnExactCollectMemory
