/-
  FnExactCoAt: for every input of bulk at most 1048576 the law returns true, and each argument reads as it read before.
-/
import Derived.Test.YtnaaflejkfaiaaaGreatRowA
import Derived.WalkKit
import Derived.ProofKit
import Derived.JoinedCond
set_option linter.unusedVariables false
set_option linter.unusedSimpArgs false
namespace Go.Proofs.YtnaaflejkfaiaaaGreat.fnExactCoAt
open Go.ChangeShapes Go.WideShapes Go.ChangeAt Go.RowKit
set_option linter.unusedVariables false
set_option maxRecDepth 100000 in
theorem zzy (os:Os) (started:os.Started) (H:Type) (enc:TypeId × Value→H) (F:Stop.Interp) :
  ReturnsInHanded {} Tryz.checked os 4 .any ((Rows.OpenSpec.upto Rows.fnExactCoAtSpec).pre6 enc Tryz.prog Tryz.f4 Rows.fnExactCoAtUptoRow.domain false) (((Rows.OpenSpec.upto Rows.fnExactCoAtSpec).at F).post enc Tryz.prog Tryz.f4 false true false false):=by
 refine returnsInHanded_of_cond (C:=Tryz.checked) (s:=Rows.OpenSpec.upto Rows.fnExactCoAtSpec) (k:=Rows.uptoSmall) rfl own started (by kernel_rfl) Tryz.func4
  (OpenSpec.witness (enc:=enc) (C:=Tryz.checked) (s:=Rows.OpenSpec.upto Rows.fnExactCoAtSpec) (k:=Rows.uptoSmall) rfl false ⟨#[],#[.agg #[.slice none 0 0,.int .i64 0,.slice none 0 0,.slice none 0 0,.int .i64 0],.int .i64 0],[]⟩ 8 (by kernel_rfl) (by kernel_rfl) (by kernel_rfl)
   (x:=([.agg [.nil,.agg [.lit (.int .i64 0),.nil],.nil,.lit (.int .i64 0)],.lit (.int .i64 0)],[],[])) (by kernel_rfl) rfl (by kernel_rfl)) ?_
 intro W base args ds gs before hval hW _ hk _
 exact ztB H enc W base args ds gs before hval hW hk
theorem t3:Tryz.pinned.checked.prog.funcNamed Rows.fnExactCoAtUptoRow.func=some 4:=by kernel_rfl
theorem t6:Tryz.f4.isInstance Tryz.pinned.checked.prog Rows.fnExactCoAtUptoRow.origin Rows.fnExactCoAtUptoRow.targs:=of_decide_eq_true (by kernel_rfl)
theorem t7:Tryz.f4.isWrapper Tryz.pinned.checked.prog Rows.fnExactCoAtUptoRow.wrapper Rows.fnExactCoAtUptoRow.mainSum:=by
 unfold Func.isWrapper
 first|(rw [if_pos (by decide +kernel)];kernel_rfl)|(rw [if_neg (by decide +kernel)];exact ⟨rfl,rfl⟩)
theorem t5:joinedFacts Tryz.pinned.checked.prog 4 Tryz.f4 (Rows.OpenSpec.upto Rows.fnExactCoAtSpec).bare Rows.fnExactCoAtUptoRow=true:=by kernel_rfl
theorem over:Rows.fnExactCoAtUptoRow.holds Tryz.pinned (Rows.OpenSpec.upto Rows.fnExactCoAtSpec) :=
 OpenClaim.holds_of_cond 4 Tryz.f4 rfl rfl rfl rfl rfl rfl rfl ⟨rfl,rfl,rfl,rfl,rfl⟩ rfl rfl rfl rfl rfl t3 Tryz.func4 t5 t6 t7
  (fun os started H enc _ F=>zzy os started H enc F)
theorem proved:Rows.FnExactCoAtUptoSaid:=over
#print axioms proved
end Go.Proofs.YtnaaflejkfaiaaaGreat.fnExactCoAt
namespace Go.Proofs.YtnaaflejkfaiaaaGreat
theorem fnExactCoAt_upto:Rows.FnExactCoAtUptoSaid:=fnExactCoAt.proved
end Go.Proofs.YtnaaflejkfaiaaaGreat
