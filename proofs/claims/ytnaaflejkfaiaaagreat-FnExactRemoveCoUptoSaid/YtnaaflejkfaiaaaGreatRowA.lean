/-
  FnExactRemoveCo: for every input of bulk at most 1048576 the law returns true, and each argument reads as it read before.
-/
import Derived.Test.YtnaaflejkfaiaaaGreatRows
import Derived.Test.YtnaaflejkfaiaaaGreatComp
import Derived.Test.YtnaaflejkfaiaaaGreatOf
import Derived.Test.YtnaaflejkfaiaaaGreatLaw
import Derived.WalkKit
import Derived.ProofKit
import Derived.OpenShut
import Derived.ShutString
import Derived.ChangeOld
import Derived.Below
import Derived.SizedLaws
import Derived.JoinedCond
set_option linter.unusedVariables false
set_option linter.unusedSimpArgs false
namespace Go.Proofs.YtnaaflejkfaiaaaGreat.fnExactRemoveCo
open Go.ChangeShapes Go.WideShapes Go.ChangeAt Go.RowKit Go.Vx
open Go.ChangeMaps (open_string shut_string)
theorem own:ownKnob Tryz.prog.godebug=none:=by kernel_rfl
theorem ztX:laidOutB Tryz.prog=true:=by kernel_rfl
theorem zoq {H:Type}:∀ l:List (DataW H),Rows.uptoBulkAll l=(l.map Rows.uptoBulk).sum
 | []=>by simp [Rows.uptoBulkAll]
 | d::r=>by simp only [Rows.uptoBulkAll,zoq r,List.map_cons,List.sum_cons]
theorem hub {H:Type}:UB (Rows.uptoBulk (H:=H)) where
 lit:=fun l=>by cases l <;> simp [Rows.uptoBulk]
 str:=fun b=>by simp [Rows.uptoBulk]
 nil:=by simp [Rows.uptoBulk]
 slice:=fun es sp=>by rw [Rows.uptoBulk,zoq];omega
 agg:=fun ps=>by rw [Rows.uptoBulk,zoq];omega
def ext (t:Nat):Option Nat:=if t=56 then some 0 else if t=60 then some 1 else if t=77 then some 0 else if t=163 then some 1 else none
theorem exOK:ExOK Tryz.prog ext ExP:=by
 intro t i h
 unfold ext at h
 by_cases h0:t=56
 ·subst h0
  rw [if_pos rfl] at h
  cases h
  exact ⟨_,TGen.tys,Tryz.underlying56,by kernel_rfl,by kernel_rfl,TGen.of0⟩
 rw [if_neg h0] at h
 by_cases h1:t=60
 ·subst h1
  rw [if_pos rfl] at h
  cases h
  exact ⟨_,TCursor.tys,Tryz.underlying60,by kernel_rfl,by kernel_rfl,TCursor.of0⟩
 rw [if_neg h1] at h
 by_cases h2:t=77
 ·subst h2
  rw [if_pos rfl] at h
  cases h
  exact ⟨_,TGen.tys,Tryz.underlying77,by kernel_rfl,by kernel_rfl,TGen.of0⟩
 rw [if_neg h2] at h
 by_cases h3:t=163
 ·subst h3
  rw [if_pos rfl] at h
  cases h
  exact ⟨_,TCursor.tys,Tryz.underlying163,by kernel_rfl,by kernel_rfl,TCursor.of0⟩
 rw [if_neg h3] at h
 cases h
theorem hm:Tryz.prog.follows .mixedOrders=true:=by kernel_rfl
set_option maxRecDepth 100000 in
theorem zva (H:Type) (enc:TypeId × Value->H) (W:World) (base:Nat) (args:Array Value) (ds gs:List (DataW H)) (before:List MemPlace)
  (hval0:∀ (j:Nat) t v,Tryz.f6.params[j]? = some t->args[j]? = some v->Value.okWide Tryz.prog W .any base t v)
  (hW:DataW.Whole enc Tryz.prog Tryz.f6.params.toList Rows.fnExactRemoveCoSpec.vars false W args.toList ds gs before) (hk0:Rows.uptoSmall H (ds++gs)=true) :
  Calls Tryz.prog 6 args W fun e W'=>∃ v,e=.returned v∧Rows.fnExactRemoveCoSpec.post enc Tryz.prog Tryz.f6 false true false false W args v W':=by
 have hval:∀ (j:Nat) t v,Tryz.f6.params[j]? = some t->args[j]? = some v->Value.okWide Tryz.prog W .any base t v:=hval0
 have hW':=hW
 obtain ⟨p,q,hA0,hV,rfl,hfz,hnd⟩:=hW
 have hA:DataW.TrodAll enc Tryz.prog W 0 (fun _=>true) true Tryz.f6.params.toList args.toList ds p:=hA0
 rw [Tryz.params6] at hA hval
 obtain ⟨v0,vs0,d0,ds0,p0,q0,hargs,rfl,rfl,h0,r0⟩:=trodAll_cons hA
 obtain ⟨v1,vs1,d1,ds1,p1,q1,rfl,rfl,rfl,h1,r1⟩:=trodAll_cons r0
 obtain ⟨rfl,rfl,rfl⟩:=trodAll_nil r1
 obtain rfl:args = #[v0,v1]:=by cases args;simp_all
 obtain ⟨rfl,rfl⟩:=trodVars_none hV
 have hk:Rows.uptoBulkAll (([d0,d1]:List (DataW H))++[])<=1048576:=of_decide_eq_true hk0
 simp only [List.append_nil,Rows.uptoBulkAll] at hk
 have k0:=h0
 have lt0:∀ x ∈ p0,x.block<W.heap.size:=by obtain ⟨m,hm⟩:=k0;exact DataW.trod_lt m _ _ _ hm
 obtain ⟨c0,e0,y0,b0⟩:=zpG exOK hub Tryz.underlying50 (show tyOf Tryz.prog ext 20 50=some TGenScope.ty by kernel_rfl) (hval 0 50 v0 rfl rfl) h0
 obtain ⟨x0,rfl,z0⟩:=TGenScope.of c0 y0
 have k1:=h1
 have lt1:∀ x ∈ p1,x.block<W.heap.size:=by obtain ⟨m,hm⟩:=k1;exact DataW.trod_lt m _ _ _ hm
 obtain ⟨x1,e1,y1⟩:=zyR exOK hub Tryz.underlying2 (by kernel_rfl) (hval 1 2 v1 rfl rfl) h1
 have hP:zpu Tryz.prog W:=fun g hg=>by have h0:Tryz.prog.globalNamed "internal/strconv.uint64pow10" = none:=(by kernel_rfl);rw [h0] at hg;cases hg
 refine (zqS (Go.Vx.RmZ.hok hm) (vs:=[v0,v1]) (.cons _ _ _ _ e0 (.cons _ _ _ _ e1 ArgsOK.nil)) hP (Go.Vx.RmZ.law x0 x1 (by omega) (by have q:=y1;simp [Lit.wf,IntKind.min,IntKind.max,IntKind.signed,IntKind.bits] at q;omega) (by omega))).mono fun e W' ⟨he,bel⟩=>?_
 subst he
 exact ⟨_,rfl,_,_,_,[],_,[],hW',trodAll_mk1 (shut_bool Tryz.underlying4 _),(trodAll_cons_mk (Below.trod ztX (by kernel_rfl) (of_decide_eq_true (by kernel_rfl)) k0 bel lt0) (trodAll_cons_mk (Below.trod ztX (by kernel_rfl) (of_decide_eq_true (by kernel_rfl)) k1 bel lt1) trodAll_mk0)),rfl,bel.frame _,fun h=>by cases h⟩
end Go.Proofs.YtnaaflejkfaiaaaGreat.fnExactRemoveCo

