/-
  No cell of these rows narrows 'for every input' (looked for: loops, veiled, ifaces, maps, wideKeys, modest, calm, conditions, laid).
  DERIVED. THE GIVEN ROWS OF THIS SEAT. 3 by the template 'for every input the law returns true; each argument reads behind the call as it read before'; 0 by the template 'total and deterministic' (their statements: YthppbplieikhkaaGreatTotals.lean).
  GIVEN WITH THE SEED: the statements are not yours to turn. If you find one false, say at which input.
  Laid BY PROGRAM, IN A SANDBOX (cutbox-rows.mjs): the forced cells as the released guide's own fill.sh prints them over the translation d9c7014266c8132c… (all of the seat's roots in one cut). By AI agents, Wed Nov 11 2026. No macro, syntax, notation, axiom, sorry.
-/
import Derived.Test.YthppbplieikhkaaGreatChecked
import GoSem.Claim
import GoSem.ClaimJoined
import GoSem.ClaimMapViews
import Derived.JoinedTies
import Derived.KernelRfl
namespace Go.Proofs.YthppbplieikhkaaGreat
/- THE CELL 'sum', in the pinned program and in every row, IS THE sha256 OF THE DUMP (.gsa) THAT YthppbplieikhkaaGreatProg.lean LOADS. Nothing in Lean hashes anything: it is a label: what it is worth is what the hold of that sum in a sandbox is worth. -/
noncomputable def Tryz.pinned : Pinned := { name := "ythppbplieikhkaagreat", sum := "d9c7014266c8132c0c04f56ace55b7af1a311575a1e237c8b7417e2b7039db2c", checked := Tryz.checked }
namespace Rows
def none {H : Type} : Left H := { results := [], args := [] }

/-- 'laws.FnExactAssign': WHATEVER THE INPUT: true; the input reads as it did. -/
def fnExactAssignSpec : ChangeSpec := { name := "fnExactAssign", fn := fun _ => fun
  | [d1, d2, d3] => { results := [.lit (.bool true)], args := [d1, d2, d3] }
  | _ => none }
def fnExactAssignRow : OpenClaim := { program := "ythppbplieikhkaagreat", sum := "d9c7014266c8132c0c04f56ace55b7af1a311575a1e237c8b7417e2b7039db2c", func := "loop.example/g00873/laws.FnExactAssign", spec := "fnExactAssign", inPlace := ["slices.overlaps[loop.example/g00873/impl.Binding]"], unfollowed := true, recurses := true, apart := false }
def FnExactAssignSaid : Prop := fnExactAssignRow.holds Tryz.pinned (OpenSpec.ofChange fnExactAssignSpec)

/-- ITS FALSE NEIGHBOUR: 'it returns false'. Refute it at one input. -/
def fnExactAssignWrong : ChangeSpec := { name := "fnExactAssign", fn := fun _ => fun
  | [d1, d2, d3] => { results := [.lit (.bool false)], args := [d1, d2, d3] }
  | _ => none }
def FnExactAssignWrongFalsely : Prop := fnExactAssignRow.holds Tryz.pinned (OpenSpec.ofChange fnExactAssignWrong)

/-- 'laws.FnExactRestoreNames': WHATEVER THE INPUT: true; the input reads as it did. -/
def fnExactRestoreNamesSpec : ChangeSpec := { name := "fnExactRestoreNames", fn := fun _ => fun
  | [d1, d2] => { results := [.lit (.bool true)], args := [d1, d2] }
  | _ => none }
def fnExactRestoreNamesRow : OpenClaim := { program := "ythppbplieikhkaagreat", sum := "d9c7014266c8132c0c04f56ace55b7af1a311575a1e237c8b7417e2b7039db2c", func := "loop.example/g00873/laws.FnExactRestoreNames", spec := "fnExactRestoreNames", inPlace := ["slices.overlaps[loop.example/g00873/impl.Binding]"], unfollowed := true, recurses := true, apart := false }
def FnExactRestoreNamesSaid : Prop := fnExactRestoreNamesRow.holds Tryz.pinned (OpenSpec.ofChange fnExactRestoreNamesSpec)

/-- ITS FALSE NEIGHBOUR: 'it returns false'. Refute it at one input. -/
def fnExactRestoreNamesWrong : ChangeSpec := { name := "fnExactRestoreNames", fn := fun _ => fun
  | [d1, d2] => { results := [.lit (.bool false)], args := [d1, d2] }
  | _ => none }
def FnExactRestoreNamesWrongFalsely : Prop := fnExactRestoreNamesRow.holds Tryz.pinned (OpenSpec.ofChange fnExactRestoreNamesWrong)

/-- 'laws.FnScope': WHATEVER THE INPUT: true; the input reads as it did. -/
def fnScopeSpec : ChangeSpec := { name := "fnScope", fn := fun _ => fun
  | [d] => { results := [.lit (.bool true)], args := [d] }
  | _ => none }
def fnScopeRow : OpenClaim := { program := "ythppbplieikhkaagreat", sum := "d9c7014266c8132c0c04f56ace55b7af1a311575a1e237c8b7417e2b7039db2c", func := "loop.example/g00873/laws.FnScope", spec := "fnScope", inPlace := ["slices.overlaps[loop.example/g00873/impl.Binding]"], unfollowed := true, recurses := true, apart := false }
def FnScopeSaid : Prop := fnScopeRow.holds Tryz.pinned (OpenSpec.ofChange fnScopeSpec)

/-- ITS FALSE NEIGHBOUR: 'it returns false'. Refute it at one input. -/
def fnScopeWrong : ChangeSpec := { name := "fnScope", fn := fun _ => fun
  | [d] => { results := [.lit (.bool false)], args := [d] }
  | _ => none }
def FnScopeWrongFalsely : Prop := fnScopeRow.holds Tryz.pinned (OpenSpec.ofChange fnScopeWrong)

/- THE SECOND FORM. 'bulk': how many values and letters a reading holds, each counted each time it is reached (what is shared counts as often as it is met; a slice's spare places count too). A statement '..UptoSaid' is the law's where the arguments, and the package variables that the reading takes, are together of bulk at most 1048576: NARROWER than '..Said'. Prove '..Said' where nothing that the law and all that it calls make is longer than what came in: it says more and counts as full. Else prove '..UptoSaid'. A law counts once. -/
mutual
def uptoBulk {H : Type} : DataW H → Nat
  | .lit (.string bytes) => bytes.length + 1
  | .lit _ => 1
  | .nil => 1
  | .ptr d => uptoBulk d + 1
  | .slice elems spare => uptoBulkAll elems + uptoBulkAll spare + 1
  | .agg parts => uptoBulkAll parts + 1
  | .iface _ d => uptoBulk d + 1
  | .map entries => uptoBulkEntries entries + 1
  | .held _ => 1
def uptoBulkAll {H : Type} : List (DataW H) → Nat
  | [] => 0
  | d :: r => uptoBulk d + uptoBulkAll r
def uptoBulkEntries {H : Type} : List (Lit × DataW H) → Nat
  | [] => 0
  | x :: r => uptoBulkEntry x + uptoBulkEntries r
def uptoBulkEntry {H : Type} : Lit × DataW H → Nat
  | (.string bytes, d) => bytes.length + uptoBulk d + 1
  | (_, d) => uptoBulk d + 1
 end
def uptoSmall : (H : Type) → List (DataW H) → Bool := fun _ ds => decide (uptoBulkAll ds ≤ 1048576)
def OpenSpec.upto (s : _root_.Go.ChangeSpec) : _root_.Go.OpenSpec := { _root_.Go.OpenSpec.ofChange s with cond := some uptoSmall }

/-- 'laws.FnExactAssign', WHERE WHAT IT READS IS OF BULK AT MOST 1048576: true; the input reads as it did. -/
def fnExactAssignUptoRow : OpenClaim := { program := "ythppbplieikhkaagreat", sum := "d9c7014266c8132c0c04f56ace55b7af1a311575a1e237c8b7417e2b7039db2c", func := "loop.example/g00873/laws.FnExactAssign", spec := "fnExactAssign", inPlace := ["slices.overlaps[loop.example/g00873/impl.Binding]"], unfollowed := true, recurses := true, apart := false, narrowed := true }
def FnExactAssignUptoSaid : Prop := fnExactAssignUptoRow.holds Tryz.pinned (OpenSpec.upto fnExactAssignSpec)

/-- 'laws.FnExactRestoreNames', WHERE WHAT IT READS IS OF BULK AT MOST 1048576: true; the input reads as it did. -/
def fnExactRestoreNamesUptoRow : OpenClaim := { program := "ythppbplieikhkaagreat", sum := "d9c7014266c8132c0c04f56ace55b7af1a311575a1e237c8b7417e2b7039db2c", func := "loop.example/g00873/laws.FnExactRestoreNames", spec := "fnExactRestoreNames", inPlace := ["slices.overlaps[loop.example/g00873/impl.Binding]"], unfollowed := true, recurses := true, apart := false, narrowed := true }
def FnExactRestoreNamesUptoSaid : Prop := fnExactRestoreNamesUptoRow.holds Tryz.pinned (OpenSpec.upto fnExactRestoreNamesSpec)

/-- 'laws.FnScope', WHERE WHAT IT READS IS OF BULK AT MOST 1048576: true; the input reads as it did. -/
def fnScopeUptoRow : OpenClaim := { program := "ythppbplieikhkaagreat", sum := "d9c7014266c8132c0c04f56ace55b7af1a311575a1e237c8b7417e2b7039db2c", func := "loop.example/g00873/laws.FnScope", spec := "fnScope", inPlace := ["slices.overlaps[loop.example/g00873/impl.Binding]"], unfollowed := true, recurses := true, apart := false, narrowed := true }
def FnScopeUptoSaid : Prop := fnScopeUptoRow.holds Tryz.pinned (OpenSpec.upto fnScopeSpec)

end Rows
end Go.Proofs.YthppbplieikhkaaGreat
