/-
  No cell of these rows narrows 'for every input' (looked for: loops, veiled, ifaces, maps, wideKeys, modest, calm, conditions, laid).
  DERIVED. THE GIVEN ROWS OF THIS SEAT. 8 by the template 'for every input the law returns true; each argument reads behind the call as it read before'; 0 by the template 'total and deterministic' (their statements: YthfkpkfcnnhkeaaGreatTotals.lean).
  GIVEN WITH THE SEED: the statements are not yours to turn. If you find one false, say at which input.
  Laid BY PROGRAM, IN A SANDBOX (cutbox-rows.mjs): the forced cells as the released guide's own fill.sh prints them over the translation 03af070b3f945c91… (all of the seat's roots in one cut). By AI agents, Wed Nov 11 2026. No macro, syntax, notation, axiom, sorry.
-/
import Derived.Test.YthfkpkfcnnhkeaaGreatChecked
import GoSem.Claim
import GoSem.ClaimJoined
import GoSem.ClaimMapViews
import Derived.JoinedTies
import Derived.KernelRfl
namespace Go.Proofs.YthfkpkfcnnhkeaaGreat
/- THE CELL 'sum', in the pinned program and in every row, IS THE sha256 OF THE DUMP (.gsa) THAT YthfkpkfcnnhkeaaGreatProg.lean LOADS. Nothing in Lean hashes anything: it is a label: what it is worth is what the hold of that sum in a sandbox is worth. -/
noncomputable def Tryz.pinned : Pinned := { name := "ythfkpkfcnnhkeaagreat", sum := "03af070b3f945c919163c909b70c5b251fd824b5c7db7e5843f2544106c65bfa", checked := Tryz.checked }
namespace Rows
def none {H : Type} : Left H := { results := [], args := [] }

/-- 'laws.FnExactSaveNames': WHATEVER THE INPUT: true; the input reads as it did. -/
def fnExactSaveNamesSpec : ChangeSpec := { name := "fnExactSaveNames", fn := fun _ => fun
  | [d1, d2] => { results := [.lit (.bool true)], args := [d1, d2] }
  | _ => none }
def fnExactSaveNamesRow : OpenClaim := { program := "ythfkpkfcnnhkeaagreat", sum := "03af070b3f945c919163c909b70c5b251fd824b5c7db7e5843f2544106c65bfa", func := "loop.example/g00873/laws.FnExactSaveNames", spec := "fnExactSaveNames", unfollowed := true, recurses := true, apart := false }
def FnExactSaveNamesSaid : Prop := fnExactSaveNamesRow.holds Tryz.pinned (OpenSpec.ofChange fnExactSaveNamesSpec)

/-- ITS FALSE NEIGHBOUR: 'it returns false'. Refute it at one input. -/
def fnExactSaveNamesWrong : ChangeSpec := { name := "fnExactSaveNames", fn := fun _ => fun
  | [d1, d2] => { results := [.lit (.bool false)], args := [d1, d2] }
  | _ => none }
def FnExactSaveNamesWrongFalsely : Prop := fnExactSaveNamesRow.holds Tryz.pinned (OpenSpec.ofChange fnExactSaveNamesWrong)

/-- 'laws.FnExactFunctionOf': WHATEVER THE INPUT: true; the input reads as it did. -/
def fnExactFunctionOfSpec : ChangeSpec := { name := "fnExactFunctionOf", fn := fun _ => fun
  | [d1, d2] => { results := [.lit (.bool true)], args := [d1, d2] }
  | _ => none }
def fnExactFunctionOfRow : OpenClaim := { program := "ythfkpkfcnnhkeaagreat", sum := "03af070b3f945c919163c909b70c5b251fd824b5c7db7e5843f2544106c65bfa", func := "loop.example/g00873/laws.FnExactFunctionOf", spec := "fnExactFunctionOf", unfollowed := true, recurses := true, apart := false }
def FnExactFunctionOfSaid : Prop := fnExactFunctionOfRow.holds Tryz.pinned (OpenSpec.ofChange fnExactFunctionOfSpec)

/-- ITS FALSE NEIGHBOUR: 'it returns false'. Refute it at one input. -/
def fnExactFunctionOfWrong : ChangeSpec := { name := "fnExactFunctionOf", fn := fun _ => fun
  | [d1, d2] => { results := [.lit (.bool false)], args := [d1, d2] }
  | _ => none }
def FnExactFunctionOfWrongFalsely : Prop := fnExactFunctionOfRow.holds Tryz.pinned (OpenSpec.ofChange fnExactFunctionOfWrong)

/-- 'laws.FnExactWithRoots': WHATEVER THE INPUT: true; the input reads as it did. -/
def fnExactWithRootsSpec : ChangeSpec := { name := "fnExactWithRoots", fn := fun _ => fun
  | [d1, d2] => { results := [.lit (.bool true)], args := [d1, d2] }
  | _ => none }
def fnExactWithRootsRow : OpenClaim := { program := "ythfkpkfcnnhkeaagreat", sum := "03af070b3f945c919163c909b70c5b251fd824b5c7db7e5843f2544106c65bfa", func := "loop.example/g00873/laws.FnExactWithRoots", spec := "fnExactWithRoots", unfollowed := true, recurses := true, apart := false }
def FnExactWithRootsSaid : Prop := fnExactWithRootsRow.holds Tryz.pinned (OpenSpec.ofChange fnExactWithRootsSpec)

/-- ITS FALSE NEIGHBOUR: 'it returns false'. Refute it at one input. -/
def fnExactWithRootsWrong : ChangeSpec := { name := "fnExactWithRoots", fn := fun _ => fun
  | [d1, d2] => { results := [.lit (.bool false)], args := [d1, d2] }
  | _ => none }
def FnExactWithRootsWrongFalsely : Prop := fnExactWithRootsRow.holds Tryz.pinned (OpenSpec.ofChange fnExactWithRootsWrong)

/-- 'laws.FnExactNewRecord': WHATEVER THE INPUT: true; the input reads as it did. -/
def fnExactNewRecordSpec : ChangeSpec := { name := "fnExactNewRecord", fn := fun _ => fun
  | [d1, d2, d3, d4] => { results := [.lit (.bool true)], args := [d1, d2, d3, d4] }
  | _ => none }
def fnExactNewRecordRow : OpenClaim := { program := "ythfkpkfcnnhkeaagreat", sum := "03af070b3f945c919163c909b70c5b251fd824b5c7db7e5843f2544106c65bfa", func := "loop.example/g00873/laws.FnExactNewRecord", spec := "fnExactNewRecord", unfollowed := true, recurses := true, apart := false }
def FnExactNewRecordSaid : Prop := fnExactNewRecordRow.holds Tryz.pinned (OpenSpec.ofChange fnExactNewRecordSpec)

/-- ITS FALSE NEIGHBOUR: 'it returns false'. Refute it at one input. -/
def fnExactNewRecordWrong : ChangeSpec := { name := "fnExactNewRecord", fn := fun _ => fun
  | [d1, d2, d3, d4] => { results := [.lit (.bool false)], args := [d1, d2, d3, d4] }
  | _ => none }
def FnExactNewRecordWrongFalsely : Prop := fnExactNewRecordRow.holds Tryz.pinned (OpenSpec.ofChange fnExactNewRecordWrong)

/-- 'laws.FnExactAssign': WHATEVER THE INPUT: true; the input reads as it did. -/
def fnExactAssignSpec : ChangeSpec := { name := "fnExactAssign", fn := fun _ => fun
  | [d1, d2, d3] => { results := [.lit (.bool true)], args := [d1, d2, d3] }
  | _ => none }
def fnExactAssignRow : OpenClaim := { program := "ythfkpkfcnnhkeaagreat", sum := "03af070b3f945c919163c909b70c5b251fd824b5c7db7e5843f2544106c65bfa", func := "loop.example/g00873/laws.FnExactAssign", spec := "fnExactAssign", inPlace := ["slices.overlaps[loop.example/g00873/impl.Binding]"], unfollowed := true, recurses := true, apart := false }
def FnExactAssignSaid : Prop := fnExactAssignRow.holds Tryz.pinned (OpenSpec.ofChange fnExactAssignSpec)

/-- ITS FALSE NEIGHBOUR: 'it returns false'. Refute it at one input. -/
def fnExactAssignWrong : ChangeSpec := { name := "fnExactAssign", fn := fun _ => fun
  | [d1, d2, d3] => { results := [.lit (.bool false)], args := [d1, d2, d3] }
  | _ => none }
def FnExactAssignWrongFalsely : Prop := fnExactAssignRow.holds Tryz.pinned (OpenSpec.ofChange fnExactAssignWrong)

/-- 'laws.FnExactRestoreNames': WHATEVER THE INPUT: true; the input reads as it did. -/
def fnExactRestoreNamesSpec : ChangeSpec := { name := "fnExactRestoreNames", fn := fun _ => fun
  | [d1, d2] => { results := [.lit (.bool true)], args := [d1, d2] }
  | _ => none }
def fnExactRestoreNamesRow : OpenClaim := { program := "ythfkpkfcnnhkeaagreat", sum := "03af070b3f945c919163c909b70c5b251fd824b5c7db7e5843f2544106c65bfa", func := "loop.example/g00873/laws.FnExactRestoreNames", spec := "fnExactRestoreNames", inPlace := ["slices.overlaps[loop.example/g00873/impl.Binding]"], unfollowed := true, recurses := true, apart := false }
def FnExactRestoreNamesSaid : Prop := fnExactRestoreNamesRow.holds Tryz.pinned (OpenSpec.ofChange fnExactRestoreNamesSpec)

/-- ITS FALSE NEIGHBOUR: 'it returns false'. Refute it at one input. -/
def fnExactRestoreNamesWrong : ChangeSpec := { name := "fnExactRestoreNames", fn := fun _ => fun
  | [d1, d2] => { results := [.lit (.bool false)], args := [d1, d2] }
  | _ => none }
def FnExactRestoreNamesWrongFalsely : Prop := fnExactRestoreNamesRow.holds Tryz.pinned (OpenSpec.ofChange fnExactRestoreNamesWrong)

/-- 'laws.FnExactOutcomeOf': WHATEVER THE INPUT: true; the input reads as it did. -/
def fnExactOutcomeOfSpec : ChangeSpec := { name := "fnExactOutcomeOf", fn := fun _ => fun
  | [d] => { results := [.lit (.bool true)], args := [d] }
  | _ => none }
def fnExactOutcomeOfRow : OpenClaim := { program := "ythfkpkfcnnhkeaagreat", sum := "03af070b3f945c919163c909b70c5b251fd824b5c7db7e5843f2544106c65bfa", func := "loop.example/g00873/laws.FnExactOutcomeOf", spec := "fnExactOutcomeOf", apart := false }
def FnExactOutcomeOfSaid : Prop := fnExactOutcomeOfRow.holds Tryz.pinned (OpenSpec.ofChange fnExactOutcomeOfSpec)

/-- ITS FALSE NEIGHBOUR: 'it returns false'. Refute it at one input. -/
def fnExactOutcomeOfWrong : ChangeSpec := { name := "fnExactOutcomeOf", fn := fun _ => fun
  | [d] => { results := [.lit (.bool false)], args := [d] }
  | _ => none }
def FnExactOutcomeOfWrongFalsely : Prop := fnExactOutcomeOfRow.holds Tryz.pinned (OpenSpec.ofChange fnExactOutcomeOfWrong)

/-- 'laws.FnScope': WHATEVER THE INPUT: true; the input reads as it did. -/
def fnScopeSpec : ChangeSpec := { name := "fnScope", fn := fun _ => fun
  | [d] => { results := [.lit (.bool true)], args := [d] }
  | _ => none }
def fnScopeRow : OpenClaim := { program := "ythfkpkfcnnhkeaagreat", sum := "03af070b3f945c919163c909b70c5b251fd824b5c7db7e5843f2544106c65bfa", func := "loop.example/g00873/laws.FnScope", spec := "fnScope", inPlace := ["slices.overlaps[loop.example/g00873/impl.Binding]"], unfollowed := true, recurses := true, apart := false }
def FnScopeSaid : Prop := fnScopeRow.holds Tryz.pinned (OpenSpec.ofChange fnScopeSpec)

/-- ITS FALSE NEIGHBOUR: 'it returns false'. Refute it at one input. -/
def fnScopeWrong : ChangeSpec := { name := "fnScope", fn := fun _ => fun
  | [d] => { results := [.lit (.bool false)], args := [d] }
  | _ => none }
def FnScopeWrongFalsely : Prop := fnScopeRow.holds Tryz.pinned (OpenSpec.ofChange fnScopeWrong)

/- THE SECOND FORM. 'bulk': how many values and letters a reading holds, each counted each time it is reached (what is shared counts as often as it is met; a slice's spare places count too). A statement '..UptoSaid' is the law's where the arguments, and the package variables that the reading takes, are together of bulk at most 1048576: NARROWER than '..Said'. Prove '..Said' where nothing that the law and all that it calls make is longer than what came in: it says more and counts as full. Else prove '..UptoSaid'. A law counts once. -/
mutual
def uptoBulk {H : Type} : DataW H → Nat
  | .lit (.string bytes) => bytes.length + 1
  | .lit _ => 1
  | .nil => 1
  | .ptr d => uptoBulk d + 1
  | .slice elems spare => uptoBulkAll elems + uptoBulkAll spare + 1
  | .agg parts => uptoBulkAll parts + 1
  | .iface _ d => uptoBulk d + 1
  | .map entries => uptoBulkEntries entries + 1
  | .held _ => 1
def uptoBulkAll {H : Type} : List (DataW H) → Nat
  | [] => 0
  | d :: r => uptoBulk d + uptoBulkAll r
def uptoBulkEntries {H : Type} : List (Lit × DataW H) → Nat
  | [] => 0
  | x :: r => uptoBulkEntry x + uptoBulkEntries r
def uptoBulkEntry {H : Type} : Lit × DataW H → Nat
  | (.string bytes, d) => bytes.length + uptoBulk d + 1
  | (_, d) => uptoBulk d + 1
 end
def uptoSmall : (H : Type) → List (DataW H) → Bool := fun _ ds => decide (uptoBulkAll ds ≤ 1048576)
def OpenSpec.upto (s : _root_.Go.ChangeSpec) : _root_.Go.OpenSpec := { _root_.Go.OpenSpec.ofChange s with cond := some uptoSmall }

/-- 'laws.FnExactSaveNames', WHERE WHAT IT READS IS OF BULK AT MOST 1048576: true; the input reads as it did. -/
def fnExactSaveNamesUptoRow : OpenClaim := { program := "ythfkpkfcnnhkeaagreat", sum := "03af070b3f945c919163c909b70c5b251fd824b5c7db7e5843f2544106c65bfa", func := "loop.example/g00873/laws.FnExactSaveNames", spec := "fnExactSaveNames", unfollowed := true, recurses := true, apart := false, narrowed := true }
def FnExactSaveNamesUptoSaid : Prop := fnExactSaveNamesUptoRow.holds Tryz.pinned (OpenSpec.upto fnExactSaveNamesSpec)

/-- 'laws.FnExactFunctionOf', WHERE WHAT IT READS IS OF BULK AT MOST 1048576: true; the input reads as it did. -/
def fnExactFunctionOfUptoRow : OpenClaim := { program := "ythfkpkfcnnhkeaagreat", sum := "03af070b3f945c919163c909b70c5b251fd824b5c7db7e5843f2544106c65bfa", func := "loop.example/g00873/laws.FnExactFunctionOf", spec := "fnExactFunctionOf", unfollowed := true, recurses := true, apart := false, narrowed := true }
def FnExactFunctionOfUptoSaid : Prop := fnExactFunctionOfUptoRow.holds Tryz.pinned (OpenSpec.upto fnExactFunctionOfSpec)

/-- 'laws.FnExactWithRoots', WHERE WHAT IT READS IS OF BULK AT MOST 1048576: true; the input reads as it did. -/
def fnExactWithRootsUptoRow : OpenClaim := { program := "ythfkpkfcnnhkeaagreat", sum := "03af070b3f945c919163c909b70c5b251fd824b5c7db7e5843f2544106c65bfa", func := "loop.example/g00873/laws.FnExactWithRoots", spec := "fnExactWithRoots", unfollowed := true, recurses := true, apart := false, narrowed := true }
def FnExactWithRootsUptoSaid : Prop := fnExactWithRootsUptoRow.holds Tryz.pinned (OpenSpec.upto fnExactWithRootsSpec)

/-- 'laws.FnExactNewRecord', WHERE WHAT IT READS IS OF BULK AT MOST 1048576: true; the input reads as it did. -/
def fnExactNewRecordUptoRow : OpenClaim := { program := "ythfkpkfcnnhkeaagreat", sum := "03af070b3f945c919163c909b70c5b251fd824b5c7db7e5843f2544106c65bfa", func := "loop.example/g00873/laws.FnExactNewRecord", spec := "fnExactNewRecord", unfollowed := true, recurses := true, apart := false, narrowed := true }
def FnExactNewRecordUptoSaid : Prop := fnExactNewRecordUptoRow.holds Tryz.pinned (OpenSpec.upto fnExactNewRecordSpec)

/-- 'laws.FnExactAssign', WHERE WHAT IT READS IS OF BULK AT MOST 1048576: true; the input reads as it did. -/
def fnExactAssignUptoRow : OpenClaim := { program := "ythfkpkfcnnhkeaagreat", sum := "03af070b3f945c919163c909b70c5b251fd824b5c7db7e5843f2544106c65bfa", func := "loop.example/g00873/laws.FnExactAssign", spec := "fnExactAssign", inPlace := ["slices.overlaps[loop.example/g00873/impl.Binding]"], unfollowed := true, recurses := true, apart := false, narrowed := true }
def FnExactAssignUptoSaid : Prop := fnExactAssignUptoRow.holds Tryz.pinned (OpenSpec.upto fnExactAssignSpec)

/-- 'laws.FnExactRestoreNames', WHERE WHAT IT READS IS OF BULK AT MOST 1048576: true; the input reads as it did. -/
def fnExactRestoreNamesUptoRow : OpenClaim := { program := "ythfkpkfcnnhkeaagreat", sum := "03af070b3f945c919163c909b70c5b251fd824b5c7db7e5843f2544106c65bfa", func := "loop.example/g00873/laws.FnExactRestoreNames", spec := "fnExactRestoreNames", inPlace := ["slices.overlaps[loop.example/g00873/impl.Binding]"], unfollowed := true, recurses := true, apart := false, narrowed := true }
def FnExactRestoreNamesUptoSaid : Prop := fnExactRestoreNamesUptoRow.holds Tryz.pinned (OpenSpec.upto fnExactRestoreNamesSpec)

/-- 'laws.FnExactOutcomeOf', WHERE WHAT IT READS IS OF BULK AT MOST 1048576: true; the input reads as it did. -/
def fnExactOutcomeOfUptoRow : OpenClaim := { program := "ythfkpkfcnnhkeaagreat", sum := "03af070b3f945c919163c909b70c5b251fd824b5c7db7e5843f2544106c65bfa", func := "loop.example/g00873/laws.FnExactOutcomeOf", spec := "fnExactOutcomeOf", apart := false, narrowed := true }
def FnExactOutcomeOfUptoSaid : Prop := fnExactOutcomeOfUptoRow.holds Tryz.pinned (OpenSpec.upto fnExactOutcomeOfSpec)

/-- 'laws.FnScope', WHERE WHAT IT READS IS OF BULK AT MOST 1048576: true; the input reads as it did. -/
def fnScopeUptoRow : OpenClaim := { program := "ythfkpkfcnnhkeaagreat", sum := "03af070b3f945c919163c909b70c5b251fd824b5c7db7e5843f2544106c65bfa", func := "loop.example/g00873/laws.FnScope", spec := "fnScope", inPlace := ["slices.overlaps[loop.example/g00873/impl.Binding]"], unfollowed := true, recurses := true, apart := false, narrowed := true }
def FnScopeUptoSaid : Prop := fnScopeUptoRow.holds Tryz.pinned (OpenSpec.upto fnScopeSpec)

end Rows
end Go.Proofs.YthfkpkfcnnhkeaaGreat
