/-
  FnExactDefineFunction: for every input of bulk at most 1048576, and package-level variables as the program's text lays them, the law returns true, and each argument reads as it read before.
-/
import Derived.Test.YthppbplieikhkaaGreatDoorRowA
import Derived.Test.YthppbplieikhkaaGreatDoorCards
import Derived.Test.YthppbplieikhkaaGreatDoorTie
import Derived.WalkKit
import Derived.ProofKit
import Derived.JoinedCond
import Derived.OpenShut
import Derived.Deep.DeepHandedRow
import Derived.Lib.LaidTab
set_option linter.unusedVariables false
set_option linter.unusedSimpArgs false
namespace Go.Proofs.YthppbplieikhkaaGreatDoor.fnExactDefineFunction
open Go.ChangeShapes Go.WideShapes Go.ChangeAt Go.RowKit
set_option linter.unusedVariables false
def lay (c : Array Value) : Obj → Obj
 | .cells _ t frozen => .cells c t frozen
 | o => o
noncomputable def zlc (os : Os) : World := { World.holding Tryz.prog os ⟨#[], #[], []⟩ with heap := (((World.holding Tryz.prog os ⟨#[], #[], []⟩).heap).modify 1 (lay ((Go.Pinned.utf8FirstZ.map fun (x : Nat) => Value.int .u8 x).toArray))).modify 2 (lay (#[.int .u8 128, .int .u8 191, .int .u8 160, .int .u8 191, .int .u8 128, .int .u8 159, .int .u8 144, .int .u8 191, .int .u8 128, .int .u8 143, .int .u8 0, .int .u8 0, .int .u8 0, .int .u8 0, .int .u8 0, .int .u8 0, .int .u8 0, .int .u8 0, .int .u8 0, .int .u8 0, .int .u8 0, .int .u8 0, .int .u8 0, .int .u8 0, .int .u8 0, .int .u8 0, .int .u8 0, .int .u8 0, .int .u8 0, .int .u8 0, .int .u8 0, .int .u8 0])) }
set_option maxRecDepth 100000 in
theorem zuQ (os : Os) : laidMet Tryz.prog Rows.fnExactDefineFunctionUptoRow.laid ((zlc os).forCall (fun _ _ => 0) ⟨#[], #[.agg #[.slice none 0 0, .slice none 0 0, .slice none 0 0], .string ByteArray.empty, .string ByteArray.empty], []⟩).memory := laidMet_of_run' 8 (by kernel_rfl) (by kernel_rfl)
set_option maxRecDepth 100000 in
theorem zzX (os : Os) {H : Type} (enc : TypeId × Value → H) : ∃ places, DataW.whole enc Tryz.prog ((zlc os).forCall (fun _ _ => 0) ⟨#[], #[.agg #[.slice none 0 0, .slice none 0 0, .slice none 0 0], .string ByteArray.empty, .string ByteArray.empty], []⟩).memory Tryz.f4.params.toList Rows.fnExactDefineFunctionSpec.vars false (#[.agg #[.slice none 0 0, .slice none 0 0, .slice none 0 0], .string ByteArray.empty, .string ByteArray.empty] : Array Value).toList 8 = some ([.agg [.nil, .nil, .nil], .lit (.string []), .lit (.string [])], [], places) := ⟨[], by kernel_rfl⟩
set_option maxRecDepth 100000 in
theorem zzz (os : Os) (started : os.Started) (H : Type) (enc : TypeId × Value → H) (F : Stop.Interp) :
  ReturnsInHanded {} Tryz.checked os 4 .any ((Rows.OpenSpec.upto Rows.fnExactDefineFunctionSpec).preRow enc Tryz.prog Tryz.f4 Rows.fnExactDefineFunctionUptoRow.domain false Rows.fnExactDefineFunctionUptoRow.laid) (((Rows.OpenSpec.upto Rows.fnExactDefineFunctionSpec).at F).post enc Tryz.prog Tryz.f4 false true false false) := by
 obtain ⟨places, hx⟩ := zzX os enc
 refine returnsInHanded_of_row (C := Tryz.checked) (s := Rows.OpenSpec.upto Rows.fnExactDefineFunctionSpec) own started (by kernel_rfl) Tryz.func4
  (witness_row_at (enc := enc) (C := Tryz.checked) false (zlc os) #[.agg #[.slice none 0 0, .slice none 0 0, .slice none 0 0], .string ByteArray.empty, .string ByteArray.empty] rfl (by kernel_rfl) (by kernel_rfl) (by kernel_rfl)
   (OpenSpec.preRow_of_cond 8 hx (by kernel_rfl) (fun k hk => by cases hk; kernel_rfl) (by kernel_rfl) (zuQ os))) ?_
 intro W base args ds gs before hval hW _ hk _ _ _ _
 exact zuP H enc W base args ds gs before hval hW (hk _ rfl)
theorem t3 : Tryz.pinned.checked.prog.funcNamed Rows.fnExactDefineFunctionUptoRow.func = some 4 := by kernel_rfl
theorem t6 : Tryz.f4.isInstance Tryz.pinned.checked.prog Rows.fnExactDefineFunctionUptoRow.origin Rows.fnExactDefineFunctionUptoRow.targs := of_decide_eq_true (by kernel_rfl)
theorem t7 : Tryz.f4.isWrapper Tryz.pinned.checked.prog Rows.fnExactDefineFunctionUptoRow.wrapper Rows.fnExactDefineFunctionUptoRow.mainSum := by
 unfold Func.isWrapper
 first | (rw [if_pos (by decide +kernel)]; kernel_rfl) | (rw [if_neg (by decide +kernel)]; exact ⟨rfl, rfl⟩)
theorem over : Rows.FnExactDefineFunctionUptoSaid :=
 OpenClaim.holds_of_cond 4 Tryz.f4 rfl rfl rfl rfl rfl rfl rfl ⟨rfl, rfl, rfl, rfl, rfl⟩ rfl rfl rfl rfl rfl t3 Tryz.func4 (by kernel_rfl) t6 t7
  (fun os started H enc _ F => by rw [OpenClaim.pre_eq_preRow]; exact zzz os started H enc F)
theorem plain (f : FuncId) (fn : Func) (hf : Tryz.pinned.checked.prog.funcNamed "loop.example/g00873/laws.FnExactDefineFunction" = some f) (hfn : Tryz.pinned.checked.prog.funcs[f]? = some fn) :
  false = Tryz.pinned.checked.prog.looks [] ∧ ∀ (j : Nat) t, fn.params[j]? = some t → Tryz.pinned.checked.prog.wantsStandIn t = false := by
 obtain rfl : f = 4 := Option.some.inj ((show Tryz.prog.funcNamed "loop.example/g00873/laws.FnExactDefineFunction" = some 4 by kernel_rfl).symm.trans hf) |>.symm
 obtain rfl : fn = Tryz.f4 := (Option.some.inj (Tryz.func4.symm.trans hfn)).symm
 refine ⟨by kernel_rfl, fun j t ht => ?_⟩
 rw [Tryz.params4] at ht
 have ht' : t = 26 ∨ t = 9 := by simpa using Array.mem_of_getElem? ht
 rcases ht' with rfl | rfl
 ·exact (show Tryz.prog.wantsStandIn 26 = false by kernel_rfl)
 ·exact (show Tryz.prog.wantsStandIn 9 = false by kernel_rfl)
theorem proved : Rows.FnExactDefineFunctionUptoCardSaid :=
 Claim7.holds_tied_plain_at .later [] _ _ _ _ over (fun _ h => by cases h) (by kernel_rfl) (fun _ h => by cases h) fnExactDefineFunctionUpto_row_tie rfl ⟨rfl, rfl⟩ (by kernel_rfl) rfl plain (by kernel_rfl)
#print axioms proved
end Go.Proofs.YthppbplieikhkaaGreatDoor.fnExactDefineFunction
namespace Go.Proofs.YthppbplieikhkaaGreatDoor
theorem fnExactDefineFunction_upto : Rows.FnExactDefineFunctionUptoCardSaid := fnExactDefineFunction.proved
end Go.Proofs.YthppbplieikhkaaGreatDoor
