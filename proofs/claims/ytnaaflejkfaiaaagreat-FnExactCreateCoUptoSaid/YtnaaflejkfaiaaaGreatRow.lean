/-
  FnExactCreateCo: for every input of bulk at most 1048576 the law returns true, and each argument reads as it read before.
-/
import Derived.Test.YtnaaflejkfaiaaaGreatRowA
import Derived.WalkKit
import Derived.ProofKit
import Derived.JoinedCond
set_option linter.unusedVariables false
set_option linter.unusedSimpArgs false
namespace Go.Proofs.YtnaaflejkfaiaaaGreat.fnExactCreateCo
open Go.ChangeShapes Go.WideShapes Go.ChangeAt Go.RowKit
set_option linter.unusedVariables false
set_option maxRecDepth 100000 in
theorem zAm (os:Os) (started:os.Started) (H:Type) (enc:TypeId × Value→H) (F:Stop.Interp) :
  ReturnsInHanded {} Tryz.checked os 5 .any ((Rows.OpenSpec.upto Rows.fnExactCreateCoSpec).pre6 enc Tryz.prog Tryz.f5 Rows.fnExactCreateCoUptoRow.domain false) (((Rows.OpenSpec.upto Rows.fnExactCreateCoSpec).at F).post enc Tryz.prog Tryz.f5 false true false false):=by
 refine returnsInHanded_of_cond (C:=Tryz.checked) (s:=Rows.OpenSpec.upto Rows.fnExactCreateCoSpec) (k:=Rows.uptoSmall) rfl own started (by kernel_rfl) Tryz.func5
  (OpenSpec.witness (enc:=enc) (C:=Tryz.checked) (s:=Rows.OpenSpec.upto Rows.fnExactCreateCoSpec) (k:=Rows.uptoSmall) rfl false ⟨#[],#[.agg #[.slice none 0 0,.int .i64 0,.slice none 0 0,.slice none 0 0,.int .i64 0],.agg #[.int .i64 0,.int .i64 0,.string ByteArray.empty,.int .i64 0,.int .i64 0,.string ByteArray.empty,.int .i64 0,.slice none 0 0]],[]⟩ 8 (by kernel_rfl) (by kernel_rfl) (by kernel_rfl)
   (x:=([.agg [.nil,.agg [.lit (.int .i64 0),.nil],.nil,.lit (.int .i64 0)],.agg [.lit (.int .i64 0),.lit (.int .i64 0),.lit (.string []),.agg [.lit (.int .i64 0),.lit (.int .i64 0),.lit (.string []),.lit (.int .i64 0)],.nil]],[],[])) (by kernel_rfl) rfl (by kernel_rfl)) ?_
 intro W base args ds gs before hval hW _ hk _
 exact zub H enc W base args ds gs before hval hW hk
theorem t3:Tryz.pinned.checked.prog.funcNamed Rows.fnExactCreateCoUptoRow.func=some 5:=by kernel_rfl
theorem t6:Tryz.f5.isInstance Tryz.pinned.checked.prog Rows.fnExactCreateCoUptoRow.origin Rows.fnExactCreateCoUptoRow.targs:=of_decide_eq_true (by kernel_rfl)
theorem t7:Tryz.f5.isWrapper Tryz.pinned.checked.prog Rows.fnExactCreateCoUptoRow.wrapper Rows.fnExactCreateCoUptoRow.mainSum:=by
 unfold Func.isWrapper
 first|(rw [if_pos (by decide +kernel)];kernel_rfl)|(rw [if_neg (by decide +kernel)];exact ⟨rfl,rfl⟩)
theorem t5:joinedFacts Tryz.pinned.checked.prog 5 Tryz.f5 (Rows.OpenSpec.upto Rows.fnExactCreateCoSpec).bare Rows.fnExactCreateCoUptoRow=true:=by kernel_rfl
theorem over:Rows.fnExactCreateCoUptoRow.holds Tryz.pinned (Rows.OpenSpec.upto Rows.fnExactCreateCoSpec) :=
 OpenClaim.holds_of_cond 5 Tryz.f5 rfl rfl rfl rfl rfl rfl rfl ⟨rfl,rfl,rfl,rfl,rfl⟩ rfl rfl rfl rfl rfl t3 Tryz.func5 t5 t6 t7
  (fun os started H enc _ F=>zAm os started H enc F)
theorem proved:Rows.FnExactCreateCoUptoSaid:=over
#print axioms proved
end Go.Proofs.YtnaaflejkfaiaaaGreat.fnExactCreateCo
namespace Go.Proofs.YtnaaflejkfaiaaaGreat
theorem fnExactCreateCo_upto:Rows.FnExactCreateCoUptoSaid:=fnExactCreateCo.proved
end Go.Proofs.YtnaaflejkfaiaaaGreat
