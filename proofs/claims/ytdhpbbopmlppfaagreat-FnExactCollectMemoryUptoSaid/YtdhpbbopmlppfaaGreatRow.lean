/-
  FnExactCollectMemory: for every input of bulk at most 1048576 the law returns true, and each argument reads as it read before.
-/
import Derived.Test.YtdhpbbopmlppfaaGreatRowA
import Derived.WalkKit
import Derived.ProofKit
import Derived.JoinedCond
set_option linter.unusedVariables false
set_option linter.unusedSimpArgs false
namespace Go.Proofs.YtdhpbbopmlppfaaGreat.fnExactCollectMemory
open Go.ChangeShapes Go.WideShapes Go.ChangeAt Go.RowKit
set_option linter.unusedVariables false
set_option maxRecDepth 100000 in
theorem zBV (os:Os) (started:os.Started) (H:Type) (enc:TypeId × Value→H) (F:Stop.Interp) :
  ReturnsInHanded {} Tryz.checked os 3 .any ((Rows.OpenSpec.upto Rows.fnExactCollectMemorySpec).pre6 enc Tryz.prog Tryz.f3 Rows.fnExactCollectMemoryUptoRow.domain false) (((Rows.OpenSpec.upto Rows.fnExactCollectMemorySpec).at F).post enc Tryz.prog Tryz.f3 false true false false):=by
 refine returnsInHanded_of_cond (C:=Tryz.checked) (s:=Rows.OpenSpec.upto Rows.fnExactCollectMemorySpec) (k:=Rows.uptoSmall) rfl own started (by kernel_rfl) Tryz.func3
  (OpenSpec.witness (enc:=enc) (C:=Tryz.checked) (s:=Rows.OpenSpec.upto Rows.fnExactCollectMemorySpec) (k:=Rows.uptoSmall) rfl false ⟨#[],#[.agg #[.int .i64 0,.slice none 0 0,.slice none 0 0,.slice none 0 0,.slice none 0 0,.slice none 0 0,.int .i64 0,.slice none 0 0,.slice none 0 0,.slice none 0 0]],[]⟩ 8 (by kernel_rfl) (by kernel_rfl) (by kernel_rfl)
   (x:=([.agg [.agg [.lit (.int .i64 0),.nil],.agg [.nil,.nil,.nil],.agg [.nil,.lit (.int .i64 0),.nil,.nil,.nil]]],[],[])) (by kernel_rfl) rfl (by kernel_rfl)) ?_
 intro W base args ds gs before hval hW _ hk _
 exact zuo H enc W base args ds gs before hval hW hk
theorem t3:Tryz.pinned.checked.prog.funcNamed Rows.fnExactCollectMemoryUptoRow.func=some 3:=by kernel_rfl
theorem t6:Tryz.f3.isInstance Tryz.pinned.checked.prog Rows.fnExactCollectMemoryUptoRow.origin Rows.fnExactCollectMemoryUptoRow.targs:=of_decide_eq_true (by kernel_rfl)
theorem t7:Tryz.f3.isWrapper Tryz.pinned.checked.prog Rows.fnExactCollectMemoryUptoRow.wrapper Rows.fnExactCollectMemoryUptoRow.mainSum:=by
 unfold Func.isWrapper
 first|(rw [if_pos (by decide +kernel)];kernel_rfl)|(rw [if_neg (by decide +kernel)];exact ⟨rfl,rfl⟩)
theorem t5:joinedFacts Tryz.pinned.checked.prog 3 Tryz.f3 (Rows.OpenSpec.upto Rows.fnExactCollectMemorySpec).bare Rows.fnExactCollectMemoryUptoRow=true:=by kernel_rfl
theorem over:Rows.fnExactCollectMemoryUptoRow.holds Tryz.pinned (Rows.OpenSpec.upto Rows.fnExactCollectMemorySpec) :=
 OpenClaim.holds_of_cond 3 Tryz.f3 rfl rfl rfl rfl rfl rfl rfl ⟨rfl,rfl,rfl,rfl,rfl⟩ rfl rfl rfl rfl rfl t3 Tryz.func3 t5 t6 t7
  (fun os started H enc _ F=>zBV os started H enc F)
theorem proved:Rows.FnExactCollectMemoryUptoSaid:=over
#print axioms proved
end Go.Proofs.YtdhpbbopmlppfaaGreat.fnExactCollectMemory
namespace Go.Proofs.YtdhpbbopmlppfaaGreat
theorem fnExactCollectMemory_upto:Rows.FnExactCollectMemoryUptoSaid:=fnExactCollectMemory.proved
end Go.Proofs.YtdhpbbopmlppfaaGreat
