/-
  FnExactAssign: for every input of bulk at most 1048576 the law returns true, and each argument reads as it read before.
-/
import Derived.Test.YthppbplieikhkaaGreatRowA
import Derived.WalkKit
import Derived.ProofKit
import Derived.JoinedCond
set_option linter.unusedVariables false
set_option linter.unusedSimpArgs false
namespace Go.Proofs.YthppbplieikhkaaGreat.fnExactAssign
open Go.ChangeShapes Go.WideShapes Go.ChangeAt Go.RowKit
set_option linter.unusedVariables false
set_option maxRecDepth 100000 in
theorem zxl (os : Os) (started : os.Started) (H : Type) (enc : TypeId × Value → H) (F : Stop.Interp) :
  ReturnsInHanded {} Tryz.checked os 3 .any ((Rows.OpenSpec.upto Rows.fnExactAssignSpec).pre6 enc Tryz.prog Tryz.f3 Rows.fnExactAssignUptoRow.domain false) (((Rows.OpenSpec.upto Rows.fnExactAssignSpec).at F).post enc Tryz.prog Tryz.f3 false true false false) := by
 refine returnsInHanded_of_cond (C := Tryz.checked) (s := Rows.OpenSpec.upto Rows.fnExactAssignSpec) (k := Rows.uptoSmall) rfl own started (by kernel_rfl) Tryz.func3
  (OpenSpec.witness (enc := enc) (C := Tryz.checked) (s := Rows.OpenSpec.upto Rows.fnExactAssignSpec) (k := Rows.uptoSmall) rfl false ⟨#[], #[.agg #[.slice none 0 0, .slice none 0 0, .slice none 0 0], .string ByteArray.empty, .agg #[.int .i64 0, .int .i64 0, .string ByteArray.empty, .int .i64 0]], []⟩ 8 (by kernel_rfl) (by kernel_rfl) (by kernel_rfl)
   (x := ([.agg [.nil, .nil, .nil], .lit (.string []), .agg [.lit (.int .i64 0), .lit (.int .i64 0), .lit (.string []), .lit (.int .i64 0)]], [], [])) (by kernel_rfl) rfl (by kernel_rfl)) ?_
 intro W base args ds gs before hval hW _ hk _
 exact zsT H enc W base args ds gs before hval hW hk
theorem t3 : Tryz.pinned.checked.prog.funcNamed Rows.fnExactAssignUptoRow.func = some 3 := by kernel_rfl
theorem t6 : Tryz.f3.isInstance Tryz.pinned.checked.prog Rows.fnExactAssignUptoRow.origin Rows.fnExactAssignUptoRow.targs := of_decide_eq_true (by kernel_rfl)
theorem t7 : Tryz.f3.isWrapper Tryz.pinned.checked.prog Rows.fnExactAssignUptoRow.wrapper Rows.fnExactAssignUptoRow.mainSum := by
 unfold Func.isWrapper
 first | (rw [if_pos (by decide +kernel)]; kernel_rfl) | (rw [if_neg (by decide +kernel)]; exact ⟨rfl, rfl⟩)
theorem t5 : joinedFacts Tryz.pinned.checked.prog 3 Tryz.f3 (Rows.OpenSpec.upto Rows.fnExactAssignSpec).bare Rows.fnExactAssignUptoRow = true := by kernel_rfl
theorem over : Rows.fnExactAssignUptoRow.holds Tryz.pinned (Rows.OpenSpec.upto Rows.fnExactAssignSpec) :=
 OpenClaim.holds_of_cond 3 Tryz.f3 rfl rfl rfl rfl rfl rfl rfl ⟨rfl, rfl, rfl, rfl, rfl⟩ rfl rfl rfl rfl rfl t3 Tryz.func3 t5 t6 t7
  (fun os started H enc _ F => zxl os started H enc F)
theorem proved : Rows.FnExactAssignUptoSaid := over
#print axioms proved
end Go.Proofs.YthppbplieikhkaaGreat.fnExactAssign
namespace Go.Proofs.YthppbplieikhkaaGreat
theorem fnExactAssign_upto : Rows.FnExactAssignUptoSaid := fnExactAssign.proved
end Go.Proofs.YthppbplieikhkaaGreat
