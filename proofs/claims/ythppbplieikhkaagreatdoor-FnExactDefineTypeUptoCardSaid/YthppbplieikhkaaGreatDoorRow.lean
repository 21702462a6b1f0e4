/-
  FnExactDefineType: for every input of bulk at most 1048576, and package-level variables as the program's text lays them, the law returns true, and each argument reads as it read before.
-/
import Derived.Test.YthppbplieikhkaaGreatDoorRowA
import Derived.Test.YthppbplieikhkaaGreatDoorCards
import Derived.Test.YthppbplieikhkaaGreatDoorTie
import Derived.WalkKit
import Derived.ProofKit
import Derived.JoinedCond
import Derived.OpenShut
import Derived.Deep.DeepHandedRow
import Derived.Lib.LaidTab
set_option linter.unusedVariables false
set_option linter.unusedSimpArgs false
namespace Go.Proofs.YthppbplieikhkaaGreatDoor.fnExactDefineType
open Go.ChangeShapes Go.WideShapes Go.ChangeAt Go.RowKit
set_option linter.unusedVariables false
def lay (c : Array Value) : Obj → Obj
 | .cells _ t frozen => .cells c t frozen
 | o => o
noncomputable def zkI (os : Os) : World := { World.holding Tryz.prog os ⟨#[], #[], []⟩ with heap := (((World.holding Tryz.prog os ⟨#[], #[], []⟩).heap).modify 1 (lay ((Go.Pinned.utf8FirstZ.map fun (x : Nat) => Value.int .u8 x).toArray))).modify 2 (lay (#[.int .u8 128, .int .u8 191, .int .u8 160, .int .u8 191, .int .u8 128, .int .u8 159, .int .u8 144, .int .u8 191, .int .u8 128, .int .u8 143, .int .u8 0, .int .u8 0, .int .u8 0, .int .u8 0, .int .u8 0, .int .u8 0, .int .u8 0, .int .u8 0, .int .u8 0, .int .u8 0, .int .u8 0, .int .u8 0, .int .u8 0, .int .u8 0, .int .u8 0, .int .u8 0, .int .u8 0, .int .u8 0, .int .u8 0, .int .u8 0, .int .u8 0, .int .u8 0])) }
set_option maxRecDepth 100000 in
theorem zup (os : Os) : laidMet Tryz.prog Rows.fnExactDefineTypeUptoRow.laid ((zkI os).forCall (fun _ _ => 0) ⟨#[], #[.agg #[.slice none 0 0, .slice none 0 0, .slice none 0 0], .string ByteArray.empty], []⟩).memory := laidMet_of_run' 8 (by kernel_rfl) (by kernel_rfl)
set_option maxRecDepth 100000 in
theorem zzy (os : Os) {H : Type} (enc : TypeId × Value → H) : ∃ places, DataW.whole enc Tryz.prog ((zkI os).forCall (fun _ _ => 0) ⟨#[], #[.agg #[.slice none 0 0, .slice none 0 0, .slice none 0 0], .string ByteArray.empty], []⟩).memory Tryz.f3.params.toList Rows.fnExactDefineTypeSpec.vars false (#[.agg #[.slice none 0 0, .slice none 0 0, .slice none 0 0], .string ByteArray.empty] : Array Value).toList 8 = some ([.agg [.nil, .nil, .nil], .lit (.string [])], [], places) := ⟨[], by kernel_rfl⟩
set_option maxRecDepth 100000 in
theorem zza (os : Os) (started : os.Started) (H : Type) (enc : TypeId × Value → H) (F : Stop.Interp) :
  ReturnsInHanded {} Tryz.checked os 3 .any ((Rows.OpenSpec.upto Rows.fnExactDefineTypeSpec).preRow enc Tryz.prog Tryz.f3 Rows.fnExactDefineTypeUptoRow.domain false Rows.fnExactDefineTypeUptoRow.laid) (((Rows.OpenSpec.upto Rows.fnExactDefineTypeSpec).at F).post enc Tryz.prog Tryz.f3 false true false false) := by
 obtain ⟨places, hx⟩ := zzy os enc
 refine returnsInHanded_of_row (C := Tryz.checked) (s := Rows.OpenSpec.upto Rows.fnExactDefineTypeSpec) own started (by kernel_rfl) Tryz.func3
  (witness_row_at (enc := enc) (C := Tryz.checked) false (zkI os) #[.agg #[.slice none 0 0, .slice none 0 0, .slice none 0 0], .string ByteArray.empty] rfl (by kernel_rfl) (by kernel_rfl) (by kernel_rfl)
   (OpenSpec.preRow_of_cond 8 hx (by kernel_rfl) (fun k hk => by cases hk; kernel_rfl) (by kernel_rfl) (zup os))) ?_
 intro W base args ds gs before hval hW _ hk _ _ _ _
 exact zuo H enc W base args ds gs before hval hW (hk _ rfl)
theorem t3 : Tryz.pinned.checked.prog.funcNamed Rows.fnExactDefineTypeUptoRow.func = some 3 := by kernel_rfl
theorem t6 : Tryz.f3.isInstance Tryz.pinned.checked.prog Rows.fnExactDefineTypeUptoRow.origin Rows.fnExactDefineTypeUptoRow.targs := of_decide_eq_true (by kernel_rfl)
theorem t7 : Tryz.f3.isWrapper Tryz.pinned.checked.prog Rows.fnExactDefineTypeUptoRow.wrapper Rows.fnExactDefineTypeUptoRow.mainSum := by
 unfold Func.isWrapper
 first | (rw [if_pos (by decide +kernel)]; kernel_rfl) | (rw [if_neg (by decide +kernel)]; exact ⟨rfl, rfl⟩)
theorem over : Rows.FnExactDefineTypeUptoSaid :=
 OpenClaim.holds_of_cond 3 Tryz.f3 rfl rfl rfl rfl rfl rfl rfl ⟨rfl, rfl, rfl, rfl, rfl⟩ rfl rfl rfl rfl rfl t3 Tryz.func3 (by kernel_rfl) t6 t7
  (fun os started H enc _ F => by rw [OpenClaim.pre_eq_preRow]; exact zza os started H enc F)
theorem plain (f : FuncId) (fn : Func) (hf : Tryz.pinned.checked.prog.funcNamed "loop.example/g00873/laws.FnExactDefineType" = some f) (hfn : Tryz.pinned.checked.prog.funcs[f]? = some fn) :
  false = Tryz.pinned.checked.prog.looks [] ∧ ∀ (j : Nat) t, fn.params[j]? = some t → Tryz.pinned.checked.prog.wantsStandIn t = false := by
 obtain rfl : f = 3 := Option.some.inj ((show Tryz.prog.funcNamed "loop.example/g00873/laws.FnExactDefineType" = some 3 by kernel_rfl).symm.trans hf) |>.symm
 obtain rfl : fn = Tryz.f3 := (Option.some.inj (Tryz.func3.symm.trans hfn)).symm
 refine ⟨by kernel_rfl, fun j t ht => ?_⟩
 rw [Tryz.params3] at ht
 have ht' : t = 26 ∨ t = 9 := by simpa using Array.mem_of_getElem? ht
 rcases ht' with rfl | rfl
 ·exact (show Tryz.prog.wantsStandIn 26 = false by kernel_rfl)
 ·exact (show Tryz.prog.wantsStandIn 9 = false by kernel_rfl)
theorem proved : Rows.FnExactDefineTypeUptoCardSaid :=
 Claim7.holds_tied_plain_at .later [] _ _ _ _ over (fun _ h => by cases h) (by kernel_rfl) (fun _ h => by cases h) fnExactDefineTypeUpto_row_tie rfl ⟨rfl, rfl⟩ (by kernel_rfl) rfl plain (by kernel_rfl)
#print axioms proved
end Go.Proofs.YthppbplieikhkaaGreatDoor.fnExactDefineType
namespace Go.Proofs.YthppbplieikhkaaGreatDoor
theorem fnExactDefineType_upto : Rows.FnExactDefineTypeUptoCardSaid := fnExactDefineType.proved
end Go.Proofs.YthppbplieikhkaaGreatDoor
