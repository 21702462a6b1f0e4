/-
  FnExactWriteVariable: for every input of bulk at most 1048576, and package-level variables as the program's text lays them, the law returns true, and each argument reads as it read before.
-/
import Derived.Test.YtapepbhnleekbaaGreatDoorRowA
import Derived.Test.YtapepbhnleekbaaGreatDoorCards
import Derived.Test.YtapepbhnleekbaaGreatDoorTie
import Derived.WalkKit
import Derived.ProofKit
import Derived.JoinedCond
import Derived.OpenShut
import Derived.Deep.DeepHandedRow
import Derived.Lib.LaidTab
import Derived.Stop.LaidErr
set_option linter.unusedVariables false
set_option linter.unusedSimpArgs false
namespace Go.Proofs.YtapepbhnleekbaaGreatDoor.fnExactWriteVariable
open Go.ChangeShapes Go.WideShapes Go.ChangeAt Go.RowKit
def lay (c:Array Value):Obj->Obj
 | .cells _ t frozen=>.cells c t frozen
 | o=>o
noncomputable def zjZ (os:Os):World:={ World.holding Tryz.prog os ⟨#[],#[],[]⟩ with heap:=((((World.holding Tryz.prog os ⟨#[],#[],[]⟩).heap).modify 0 (lay (#[.int .u64 1,.int .u64 10,.int .u64 100,.int .u64 1000,.int .u64 10000,.int .u64 100000,.int .u64 1000000,.int .u64 10000000,.int .u64 100000000,.int .u64 1000000000,.int .u64 10000000000,.int .u64 100000000000,.int .u64 1000000000000,.int .u64 10000000000000,.int .u64 100000000000000,.int .u64 1000000000000000,.int .u64 10000000000000000,.int .u64 100000000000000000,.int .u64 1000000000000000000,.int .u64 10000000000000000000]))).modify 1 (lay (#[.int .u8 0,.int .u8 1,.int .u8 28,.int .u8 2,.int .u8 29,.int .u8 14,.int .u8 24,.int .u8 3,.int .u8 30,.int .u8 22,.int .u8 20,.int .u8 15,.int .u8 25,.int .u8 17,.int .u8 4,.int .u8 8,.int .u8 31,.int .u8 27,.int .u8 13,.int .u8 23,.int .u8 21,.int .u8 19,.int .u8 16,.int .u8 7,.int .u8 26,.int .u8 12,.int .u8 18,.int .u8 6,.int .u8 11,.int .u8 5,.int .u8 10,.int .u8 9]))).modify 2 (lay (#[.int .u8 0,.int .u8 1,.int .u8 56,.int .u8 2,.int .u8 57,.int .u8 49,.int .u8 28,.int .u8 3,.int .u8 61,.int .u8 58,.int .u8 42,.int .u8 50,.int .u8 38,.int .u8 29,.int .u8 17,.int .u8 4,.int .u8 62,.int .u8 47,.int .u8 59,.int .u8 36,.int .u8 45,.int .u8 43,.int .u8 51,.int .u8 22,.int .u8 53,.int .u8 39,.int .u8 33,.int .u8 30,.int .u8 24,.int .u8 18,.int .u8 12,.int .u8 5,.int .u8 63,.int .u8 55,.int .u8 48,.int .u8 27,.int .u8 60,.int .u8 41,.int .u8 37,.int .u8 16,.int .u8 46,.int .u8 35,.int .u8 44,.int .u8 21,.int .u8 52,.int .u8 32,.int .u8 23,.int .u8 11,.int .u8 54,.int .u8 26,.int .u8 40,.int .u8 15,.int .u8 34,.int .u8 20,.int .u8 31,.int .u8 10,.int .u8 25,.int .u8 14,.int .u8 19,.int .u8 9,.int .u8 13,.int .u8 8,.int .u8 7,.int .u8 6])) }
set_option maxRecDepth 100000 in
theorem zuW (os:Os):laidMet Tryz.prog Rows.fnExactWriteVariableUptoRow.laid ((zjZ os).forCall (fun _ _=>0) ⟨#[],#[.agg #[.int .i64 0,.slice none 0 0,.slice none 0 0,.slice none 0 0,.slice none 0 0,.slice none 0 0,.int .i64 0,.slice none 0 0,.slice none 0 0,.slice none 0 0],.string ByteArray.empty,.agg #[.int .i64 0,.int .i64 0,.string ByteArray.empty,.int .i64 0]],[]⟩).memory:=laidMet_of_run' 8 (by kernel_rfl) (by kernel_rfl)
set_option maxRecDepth 100000 in
theorem zCV (os:Os) {H:Type} (enc:TypeId × Value->H):∃ places,DataW.whole enc Tryz.prog ((zjZ os).forCall (fun _ _=>0) ⟨#[],#[.agg #[.int .i64 0,.slice none 0 0,.slice none 0 0,.slice none 0 0,.slice none 0 0,.slice none 0 0,.int .i64 0,.slice none 0 0,.slice none 0 0,.slice none 0 0],.string ByteArray.empty,.agg #[.int .i64 0,.int .i64 0,.string ByteArray.empty,.int .i64 0]],[]⟩).memory Tryz.f3.params.toList Rows.fnExactWriteVariableSpec.vars false (#[.agg #[.int .i64 0,.slice none 0 0,.slice none 0 0,.slice none 0 0,.slice none 0 0,.slice none 0 0,.int .i64 0,.slice none 0 0,.slice none 0 0,.slice none 0 0],.string ByteArray.empty,.agg #[.int .i64 0,.int .i64 0,.string ByteArray.empty,.int .i64 0]]:Array Value).toList 8=some ([.agg [.agg [.lit (.int .i64 0),.nil],.agg [.nil,.nil,.nil],.agg [.nil,.lit (.int .i64 0),.nil,.nil,.nil]],.lit (.string []),.agg [.lit (.int .i64 0),.lit (.int .i64 0),.lit (.string []),.lit (.int .i64 0)]],[],places):=⟨[],by kernel_rfl⟩
set_option maxRecDepth 100000 in
theorem zCu (W:World) (hL:laidMetH Tryz.prog Rows.fnExactWriteVariableUptoRow.laid W):Go.Vx.zpA Tryz.prog W:=by
 intro g hg
 obtain rfl:g=0:=Option.some.inj (hg.symm.trans (show Tryz.prog.globalNamed "internal/strconv.uint64pow10" = some 0 by kernel_rfl))
 have h:laidMet Tryz.prog Rows.fnExactWriteVariableUptoRow.laid W:=hL
 have e:Rows.fnExactWriteVariableUptoRow.laid.drop 2=("internal/strconv.uint64pow10", Lib.tabData .u64 Lib.pow10Tab)::Rows.fnExactWriteVariableUptoRow.laid.drop 3:=by kernel_rfl
 have h2:laidMet Tryz.prog (Rows.fnExactWriteVariableUptoRow.laid.drop 2) W:=h.tail.tail
 rw [e] at h2
 exact Lib.tabIs_of_head (n:=20) (t:=304) (e:=288) hg (by kernel_rfl) Tryz.underlying304 Tryz.underlying288 (by kernel_rfl) (by kernel_rfl) h2
set_option maxRecDepth 100000 in
theorem zCv (os:Os) (started:os.Started) (H:Type) (enc:TypeId × Value->H) (F:Stop.Interp) :
  ReturnsInHanded {} Tryz.checked os 3 .any ((Rows.OpenSpec.upto Rows.fnExactWriteVariableSpec).preRow enc Tryz.prog Tryz.f3 Rows.fnExactWriteVariableUptoRow.domain false Rows.fnExactWriteVariableUptoRow.laid) (((Rows.OpenSpec.upto Rows.fnExactWriteVariableSpec).at F).post enc Tryz.prog Tryz.f3 false true false false):=by
 obtain ⟨places,hx⟩:=zCV os enc
 refine returnsInHanded_of_row (C:=Tryz.checked) (s:=Rows.OpenSpec.upto Rows.fnExactWriteVariableSpec) own started (by kernel_rfl) Tryz.func3
  (witness_row_at (enc:=enc) (C:=Tryz.checked) false (zjZ os) #[.agg #[.int .i64 0,.slice none 0 0,.slice none 0 0,.slice none 0 0,.slice none 0 0,.slice none 0 0,.int .i64 0,.slice none 0 0,.slice none 0 0,.slice none 0 0],.string ByteArray.empty,.agg #[.int .i64 0,.int .i64 0,.string ByteArray.empty,.int .i64 0]] rfl (by kernel_rfl) (by kernel_rfl) (by kernel_rfl)
   (OpenSpec.preRow_of_cond 8 hx (by kernel_rfl) (fun k hk=>by cases hk;kernel_rfl) (by kernel_rfl) (zuW os))) ?_
 intro W base args ds gs before hval hW _ hk _ hL _ _
 exact zuV H enc W base args ds gs before hval hW (hk _ rfl) (zCu W hL)
theorem t3:Tryz.pinned.checked.prog.funcNamed Rows.fnExactWriteVariableUptoRow.func=some 3:=by kernel_rfl
theorem t6:Tryz.f3.isInstance Tryz.pinned.checked.prog Rows.fnExactWriteVariableUptoRow.origin Rows.fnExactWriteVariableUptoRow.targs:=of_decide_eq_true (by kernel_rfl)
theorem t7:Tryz.f3.isWrapper Tryz.pinned.checked.prog Rows.fnExactWriteVariableUptoRow.wrapper Rows.fnExactWriteVariableUptoRow.mainSum:=by
 unfold Func.isWrapper
 first|(rw [if_pos (by decide +kernel)];kernel_rfl)|(rw [if_neg (by decide +kernel)];exact ⟨rfl,rfl⟩)
theorem over:Rows.FnExactWriteVariableUptoSaid :=
 OpenClaim.holds_of_cond 3 Tryz.f3 rfl rfl rfl rfl rfl rfl rfl ⟨rfl,rfl,rfl,rfl,rfl⟩ rfl rfl rfl rfl rfl t3 Tryz.func3 (by kernel_rfl) t6 t7
  (fun os started H enc _ F=>by rw [OpenClaim.pre_eq_preRow];exact zCv os started H enc F)
theorem plain (f:FuncId) (fn:Func) (hf:Tryz.pinned.checked.prog.funcNamed "loop.example/g00873/laws.FnExactWriteVariable" = some f) (hfn:Tryz.pinned.checked.prog.funcs[f]? = some fn) :
  false=Tryz.pinned.checked.prog.looks []∧∀ (j:Nat) t,fn.params[j]? = some t->Tryz.pinned.checked.prog.wantsStandIn t=false:=by
 obtain rfl:f=3:=Option.some.inj ((show Tryz.prog.funcNamed "loop.example/g00873/laws.FnExactWriteVariable" = some 3 by kernel_rfl).symm.trans hf) |>.symm
 obtain rfl:fn=Tryz.f3:=(Option.some.inj (Tryz.func3.symm.trans hfn)).symm
 refine ⟨by kernel_rfl,fun j t ht=>?_⟩
 rw [Tryz.params3] at ht
 have ht':t=35 ∨ t=9 ∨ t=37:=by simpa using Array.mem_of_getElem? ht
 rcases ht' with rfl|rfl|rfl
 ·exact (show Tryz.prog.wantsStandIn 35=false by kernel_rfl)
 ·exact (show Tryz.prog.wantsStandIn 9=false by kernel_rfl)
 ·exact (show Tryz.prog.wantsStandIn 37=false by kernel_rfl)
theorem proved:Rows.FnExactWriteVariableUptoCardSaid :=
 Claim7.holds_tied_plain_at .later [] _ _ _ _ over (fun _ h=>by cases h) (by kernel_rfl) (fun _ h=>by cases h) fnExactWriteVariableUpto_row_tie rfl ⟨rfl,rfl⟩ (by kernel_rfl) rfl plain (by kernel_rfl)
#print axioms proved
end Go.Proofs.YtapepbhnleekbaaGreatDoor.fnExactWriteVariable
namespace Go.Proofs.YtapepbhnleekbaaGreatDoor
theorem fnExactWriteVariable_upto:Rows.FnExactWriteVariableUptoCardSaid:=fnExactWriteVariable.proved
end Go.Proofs.YtapepbhnleekbaaGreatDoor

