/-
  FnExactRemoveCo: for every input of bulk at most 1048576 the law returns true, and each argument reads as it read before.
-/
import Derived.Test.YtnaaflejkfaiaaaGreatRowA
import Derived.WalkKit
import Derived.ProofKit
import Derived.JoinedCond
set_option linter.unusedVariables false
set_option linter.unusedSimpArgs false
namespace Go.Proofs.YtnaaflejkfaiaaaGreat.fnExactRemoveCo
open Go.ChangeShapes Go.WideShapes Go.ChangeAt Go.RowKit
set_option maxRecDepth 100000 in
theorem zBq (os:Os) (started:os.Started) (H:Type) (enc:TypeId × Value->H) (F:Stop.Interp) :
  ReturnsInHanded {} Tryz.checked os 6 .any ((Rows.OpenSpec.upto Rows.fnExactRemoveCoSpec).pre6 enc Tryz.prog Tryz.f6 Rows.fnExactRemoveCoUptoRow.domain false) (((Rows.OpenSpec.upto Rows.fnExactRemoveCoSpec).at F).post enc Tryz.prog Tryz.f6 false true false false):=by
 refine returnsInHanded_of_cond (C:=Tryz.checked) (s:=Rows.OpenSpec.upto Rows.fnExactRemoveCoSpec) (k:=Rows.uptoSmall) rfl own started (by kernel_rfl) Tryz.func6
  (OpenSpec.witness (enc:=enc) (C:=Tryz.checked) (s:=Rows.OpenSpec.upto Rows.fnExactRemoveCoSpec) (k:=Rows.uptoSmall) rfl false ⟨#[],#[.agg #[.slice none 0 0,.int .i64 0,.slice none 0 0,.slice none 0 0,.int .i64 0],.int .i64 0],[]⟩ 8 (by kernel_rfl) (by kernel_rfl) (by kernel_rfl)
   (x:=([.agg [.nil,.agg [.lit (.int .i64 0),.nil],.nil,.lit (.int .i64 0)],.lit (.int .i64 0)],[],[])) (by kernel_rfl) rfl (by kernel_rfl)) ?_
 intro W base args ds gs before hval hW _ hk _
 exact zva H enc W base args ds gs before hval hW hk
theorem t3:Tryz.pinned.checked.prog.funcNamed Rows.fnExactRemoveCoUptoRow.func=some 6:=by kernel_rfl
theorem t6:Tryz.f6.isInstance Tryz.pinned.checked.prog Rows.fnExactRemoveCoUptoRow.origin Rows.fnExactRemoveCoUptoRow.targs:=of_decide_eq_true (by kernel_rfl)
theorem t7:Tryz.f6.isWrapper Tryz.pinned.checked.prog Rows.fnExactRemoveCoUptoRow.wrapper Rows.fnExactRemoveCoUptoRow.mainSum:=by
 unfold Func.isWrapper
 first|(rw [if_pos (by decide +kernel)];kernel_rfl)|(rw [if_neg (by decide +kernel)];exact ⟨rfl,rfl⟩)
theorem t5:joinedFacts Tryz.pinned.checked.prog 6 Tryz.f6 (Rows.OpenSpec.upto Rows.fnExactRemoveCoSpec).bare Rows.fnExactRemoveCoUptoRow=true:=by kernel_rfl
theorem over:Rows.fnExactRemoveCoUptoRow.holds Tryz.pinned (Rows.OpenSpec.upto Rows.fnExactRemoveCoSpec) :=
 OpenClaim.holds_of_cond 6 Tryz.f6 rfl rfl rfl rfl rfl rfl rfl ⟨rfl,rfl,rfl,rfl,rfl⟩ rfl rfl rfl rfl rfl t3 Tryz.func6 t5 t6 t7
  (fun os started H enc _ F=>zBq os started H enc F)
theorem proved:Rows.FnExactRemoveCoUptoSaid:=over
#print axioms proved
end Go.Proofs.YtnaaflejkfaiaaaGreat.fnExactRemoveCo
namespace Go.Proofs.YtnaaflejkfaiaaaGreat
theorem fnExactRemoveCo_upto:Rows.FnExactRemoveCoUptoSaid:=fnExactRemoveCo.proved
end Go.Proofs.YtnaaflejkfaiaaaGreat

