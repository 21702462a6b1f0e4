/-
  FnExactRefreshCo: for every input of bulk at most 1048576 the law returns true, and each argument reads as it read before.
-/
import Derived.Test.YtnaaflejkfaiaaaGreatRowA
import Derived.WalkKit
import Derived.ProofKit
import Derived.JoinedCond
set_option linter.unusedVariables false
set_option linter.unusedSimpArgs false
namespace Go.Proofs.YtnaaflejkfaiaaaGreat.fnExactRefreshCo
open Go.ChangeShapes Go.WideShapes Go.ChangeAt Go.RowKit
set_option linter.unusedVariables false
set_option maxRecDepth 100000 in
theorem zAE (os:Os) (started:os.Started) (H:Type) (enc:TypeId × Value→H) (F:Stop.Interp) :
  ReturnsInHanded {} Tryz.checked os 7 .any ((Rows.OpenSpec.upto Rows.fnExactRefreshCoSpec).pre6 enc Tryz.prog Tryz.f7 Rows.fnExactRefreshCoUptoRow.domain false) (((Rows.OpenSpec.upto Rows.fnExactRefreshCoSpec).at F).post enc Tryz.prog Tryz.f7 false true false false):=by
 refine returnsInHanded_of_cond (C:=Tryz.checked) (s:=Rows.OpenSpec.upto Rows.fnExactRefreshCoSpec) (k:=Rows.uptoSmall) rfl own started (by kernel_rfl) Tryz.func7
  (OpenSpec.witness (enc:=enc) (C:=Tryz.checked) (s:=Rows.OpenSpec.upto Rows.fnExactRefreshCoSpec) (k:=Rows.uptoSmall) rfl false ⟨#[],#[.agg #[.slice none 0 0,.int .i64 0,.slice none 0 0,.slice none 0 0,.int .i64 0],.int .i64 0],[]⟩ 8 (by kernel_rfl) (by kernel_rfl) (by kernel_rfl)
   (x:=([.agg [.nil,.agg [.lit (.int .i64 0),.nil],.nil,.lit (.int .i64 0)],.lit (.int .i64 0)],[],[])) (by kernel_rfl) rfl (by kernel_rfl)) ?_
 intro W base args ds gs before hval hW _ hk _
 exact zui H enc W base args ds gs before hval hW hk
theorem t3:Tryz.pinned.checked.prog.funcNamed Rows.fnExactRefreshCoUptoRow.func=some 7:=by kernel_rfl
theorem t6:Tryz.f7.isInstance Tryz.pinned.checked.prog Rows.fnExactRefreshCoUptoRow.origin Rows.fnExactRefreshCoUptoRow.targs:=of_decide_eq_true (by kernel_rfl)
theorem t7:Tryz.f7.isWrapper Tryz.pinned.checked.prog Rows.fnExactRefreshCoUptoRow.wrapper Rows.fnExactRefreshCoUptoRow.mainSum:=by
 unfold Func.isWrapper
 first|(rw [if_pos (by decide +kernel)];kernel_rfl)|(rw [if_neg (by decide +kernel)];exact ⟨rfl,rfl⟩)
theorem t5:joinedFacts Tryz.pinned.checked.prog 7 Tryz.f7 (Rows.OpenSpec.upto Rows.fnExactRefreshCoSpec).bare Rows.fnExactRefreshCoUptoRow=true:=by kernel_rfl
theorem over:Rows.fnExactRefreshCoUptoRow.holds Tryz.pinned (Rows.OpenSpec.upto Rows.fnExactRefreshCoSpec) :=
 OpenClaim.holds_of_cond 7 Tryz.f7 rfl rfl rfl rfl rfl rfl rfl ⟨rfl,rfl,rfl,rfl,rfl⟩ rfl rfl rfl rfl rfl t3 Tryz.func7 t5 t6 t7
  (fun os started H enc _ F=>zAE os started H enc F)
theorem proved:Rows.FnExactRefreshCoUptoSaid:=over
#print axioms proved
end Go.Proofs.YtnaaflejkfaiaaaGreat.fnExactRefreshCo
namespace Go.Proofs.YtnaaflejkfaiaaaGreat
theorem fnExactRefreshCo_upto:Rows.FnExactRefreshCoUptoSaid:=fnExactRefreshCo.proved
end Go.Proofs.YtnaaflejkfaiaaaGreat
