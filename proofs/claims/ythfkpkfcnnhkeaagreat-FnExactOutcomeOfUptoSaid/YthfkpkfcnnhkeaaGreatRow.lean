/-
  FnExactOutcomeOf: for every input of bulk at most 1048576 the law returns true, and each argument reads as it read before.
-/

import Derived.Test.YthfkpkfcnnhkeaaGreatRowA
import Derived.WalkKit
import Derived.ProofKit
import Derived.JoinedCond
set_option linter.unusedVariables false
set_option linter.unusedSimpArgs false
namespace Go.Proofs.YthfkpkfcnnhkeaaGreat.fnExactOutcomeOf
open Go.ChangeShapes Go.WideShapes Go.ChangeAt Go.RowKit
set_option linter.unusedVariables false
set_option maxRecDepth 100000 in
theorem lifted (os : Os) (started : os.Started) (H : Type) (enc : TypeId × Value → H) (F : Stop.Interp) :
    ReturnsInHanded {} Tryz.checked os 9 .any ((Rows.OpenSpec.upto Rows.fnExactOutcomeOfSpec).pre6 enc Tryz.prog Tryz.f9 Rows.fnExactOutcomeOfUptoRow.domain false) (((Rows.OpenSpec.upto Rows.fnExactOutcomeOfSpec).at F).post enc Tryz.prog Tryz.f9 false true false false) := by
  refine returnsInHanded_of_cond (C := Tryz.checked) (s := Rows.OpenSpec.upto Rows.fnExactOutcomeOfSpec) (k := Rows.uptoSmall) rfl own started (by kernel_rfl) Tryz.func9
    (OpenSpec.witness (enc := enc) (C := Tryz.checked) (s := Rows.OpenSpec.upto Rows.fnExactOutcomeOfSpec) (k := Rows.uptoSmall) rfl false ⟨#[], #[.agg #[.int .i64 0, .int .i64 0, .int .i64 0, .slice none 0 0, .slice none 0 0, .slice none 0 0, .slice none 0 0, .slice none 0 0, .int .i64 0, .slice none 0 0, .slice none 0 0, .slice none 0 0, .slice none 0 0, .slice none 0 0, .int .i64 0, .int .i64 0, .int .i64 0, .int .i64 0, .int .i64 0]], []⟩ 8 (by kernel_rfl) (by kernel_rfl) (by kernel_rfl)
      (x := ([.agg [.lit (.int .i64 0), .lit (.int .i64 0), .agg [.agg [.lit (.int .i64 0), .nil], .agg [.nil, .nil, .nil], .agg [.nil, .lit (.int .i64 0), .nil, .nil, .nil]], .nil, .nil, .lit (.int .i64 0), .lit (.int .i64 0), .lit (.int .i64 0), .lit (.int .i64 0), .lit (.int .i64 0)]], [], [])) (by kernel_rfl) rfl (by kernel_rfl)) ?_
  intro W base args ds gs before hval hW _ hk _
  exact contract H enc W base args ds gs before hval hW hk
theorem t3 : Tryz.pinned.checked.prog.funcNamed Rows.fnExactOutcomeOfUptoRow.func = some 9 := by kernel_rfl
theorem t6 : Tryz.f9.isInstance Tryz.pinned.checked.prog Rows.fnExactOutcomeOfUptoRow.origin Rows.fnExactOutcomeOfUptoRow.targs := of_decide_eq_true (by kernel_rfl)
theorem t7 : Tryz.f9.isWrapper Tryz.pinned.checked.prog Rows.fnExactOutcomeOfUptoRow.wrapper Rows.fnExactOutcomeOfUptoRow.mainSum := by
  unfold Func.isWrapper
  first | (rw [if_pos (by decide +kernel)]; kernel_rfl) | (rw [if_neg (by decide +kernel)]; exact ⟨rfl, rfl⟩)
theorem t5 : joinedFacts Tryz.pinned.checked.prog 9 Tryz.f9 (Rows.OpenSpec.upto Rows.fnExactOutcomeOfSpec).bare Rows.fnExactOutcomeOfUptoRow = true := by kernel_rfl
theorem over : Rows.fnExactOutcomeOfUptoRow.holds Tryz.pinned (Rows.OpenSpec.upto Rows.fnExactOutcomeOfSpec) :=
  OpenClaim.holds_of_cond 9 Tryz.f9 rfl rfl rfl rfl rfl rfl rfl ⟨rfl, rfl, rfl, rfl, rfl⟩ rfl rfl rfl rfl rfl t3 Tryz.func9 t5 t6 t7
    (fun os started H enc _ F => lifted os started H enc F)
theorem proved : Rows.FnExactOutcomeOfUptoSaid := over
#print axioms proved
end Go.Proofs.YthfkpkfcnnhkeaaGreat.fnExactOutcomeOf
namespace Go.Proofs.YthfkpkfcnnhkeaaGreat
/-- The law's row, for the claim. -/
theorem fnExactOutcomeOf_upto : Rows.FnExactOutcomeOfUptoSaid := fnExactOutcomeOf.proved
end Go.Proofs.YthfkpkfcnnhkeaaGreat
