/-
  NARROWER THAN 'FOR EVERY INPUT', by the rows' own cells (each row's printed sentence says how): FnExactCoAt: loops · FnExactCreateCo: loops · FnExactRemoveCo: loops · FnExactRefreshCo: loops.
  DERIVED. THE GIVEN ROWS OF THIS SEAT. 5 by the template 'for every input the law returns true; each argument reads behind the call as it read before'; 0 by the template 'total and deterministic' (their statements: YtnaaflejkfaiaaaGreatTotals.lean).
  GIVEN WITH THE SEED: the statements are not yours to turn. If you find one false, say at which input.
  Laid BY PROGRAM, IN A SANDBOX (cutbox-rows.mjs): the forced cells as the released guide's own fill.sh prints them over the translation f7f8c85bfa06bc56… (all of the seat's roots in one cut). By AI agents, Wed Nov 11 2026. No macro, syntax, notation, axiom, sorry.
-/
import Derived.Test.YtnaaflejkfaiaaaGreatChecked
import GoSem.Claim
import GoSem.ClaimJoined
import GoSem.ClaimMapViews
import Derived.JoinedTies
import Derived.KernelRfl
namespace Go.Proofs.YtnaaflejkfaiaaaGreat
/- THE CELL 'sum', in the pinned program and in every row, IS THE sha256 OF THE DUMP (.gsa) THAT YtnaaflejkfaiaaaGreatProg.lean LOADS. Nothing in Lean hashes anything: it is a label: what it is worth is what the hold of that sum in a sandbox is worth. -/
noncomputable def Tryz.pinned : Pinned := { name := "ytnaaflejkfaiaaagreat", sum := "f7f8c85bfa06bc56d4bed8a41f9c2ff3e72476bdca01a8ee0b0df482412be4f0", checked := Tryz.checked }
namespace Rows
def none {H : Type} : Left H := { results := [], args := [] }

/-- 'laws.FnExactNewMemory': WHATEVER THE INPUT: true; the input reads as it did. -/
def fnExactNewMemorySpec : ChangeSpec := { name := "fnExactNewMemory", fn := fun _ => fun
  | [d] => { results := [.lit (.bool true)], args := [d] }
  | _ => none }
def fnExactNewMemoryRow : OpenClaim := { program := "ytnaaflejkfaiaaagreat", sum := "f7f8c85bfa06bc56d4bed8a41f9c2ff3e72476bdca01a8ee0b0df482412be4f0", func := "loop.example/g00873/laws.FnExactNewMemory", spec := "fnExactNewMemory", unfollowed := true, recurses := true, apart := false }
def FnExactNewMemorySaid : Prop := fnExactNewMemoryRow.holds Tryz.pinned (OpenSpec.ofChange fnExactNewMemorySpec)

/-- ITS FALSE NEIGHBOUR: 'it returns false'. Refute it at one input. -/
def fnExactNewMemoryWrong : ChangeSpec := { name := "fnExactNewMemory", fn := fun _ => fun
  | [d] => { results := [.lit (.bool false)], args := [d] }
  | _ => none }
def FnExactNewMemoryWrongFalsely : Prop := fnExactNewMemoryRow.holds Tryz.pinned (OpenSpec.ofChange fnExactNewMemoryWrong)

/-- 'laws.FnExactCoAt': WHATEVER THE INPUT: true; the input reads as it did. -/
def fnExactCoAtSpec : ChangeSpec := { name := "fnExactCoAt", fn := fun _ => fun
  | [d1, d2] => { results := [.lit (.bool true)], args := [d1, d2] }
  | _ => none }
def fnExactCoAtRow : OpenClaim := { program := "ytnaaflejkfaiaaagreat", sum := "f7f8c85bfa06bc56d4bed8a41f9c2ff3e72476bdca01a8ee0b0df482412be4f0", func := "loop.example/g00873/laws.FnExactCoAt", spec := "fnExactCoAt", unfollowed := true, recurses := true, loops := true, apart := false }
def FnExactCoAtSaid : Prop := fnExactCoAtRow.holds Tryz.pinned (OpenSpec.ofChange fnExactCoAtSpec)

/-- ITS FALSE NEIGHBOUR: 'it returns false'. Refute it at one input. -/
def fnExactCoAtWrong : ChangeSpec := { name := "fnExactCoAt", fn := fun _ => fun
  | [d1, d2] => { results := [.lit (.bool false)], args := [d1, d2] }
  | _ => none }
def FnExactCoAtWrongFalsely : Prop := fnExactCoAtRow.holds Tryz.pinned (OpenSpec.ofChange fnExactCoAtWrong)

/-- 'laws.FnExactCreateCo': WHATEVER THE INPUT: true; the input reads as it did. -/
def fnExactCreateCoSpec : ChangeSpec := { name := "fnExactCreateCo", fn := fun _ => fun
  | [d1, d2] => { results := [.lit (.bool true)], args := [d1, d2] }
  | _ => none }
def fnExactCreateCoRow : OpenClaim := { program := "ytnaaflejkfaiaaagreat", sum := "f7f8c85bfa06bc56d4bed8a41f9c2ff3e72476bdca01a8ee0b0df482412be4f0", func := "loop.example/g00873/laws.FnExactCreateCo", spec := "fnExactCreateCo", unfollowed := true, recurses := true, loops := true, apart := false }
def FnExactCreateCoSaid : Prop := fnExactCreateCoRow.holds Tryz.pinned (OpenSpec.ofChange fnExactCreateCoSpec)

/-- ITS FALSE NEIGHBOUR: 'it returns false'. Refute it at one input. -/
def fnExactCreateCoWrong : ChangeSpec := { name := "fnExactCreateCo", fn := fun _ => fun
  | [d1, d2] => { results := [.lit (.bool false)], args := [d1, d2] }
  | _ => none }
def FnExactCreateCoWrongFalsely : Prop := fnExactCreateCoRow.holds Tryz.pinned (OpenSpec.ofChange fnExactCreateCoWrong)

/-- 'laws.FnExactRemoveCo': WHATEVER THE INPUT: true; the input reads as it did. -/
def fnExactRemoveCoSpec : ChangeSpec := { name := "fnExactRemoveCo", fn := fun _ => fun
  | [d1, d2] => { results := [.lit (.bool true)], args := [d1, d2] }
  | _ => none }
def fnExactRemoveCoRow : OpenClaim := { program := "ytnaaflejkfaiaaagreat", sum := "f7f8c85bfa06bc56d4bed8a41f9c2ff3e72476bdca01a8ee0b0df482412be4f0", func := "loop.example/g00873/laws.FnExactRemoveCo", spec := "fnExactRemoveCo", unfollowed := true, recurses := true, loops := true, apart := false }
def FnExactRemoveCoSaid : Prop := fnExactRemoveCoRow.holds Tryz.pinned (OpenSpec.ofChange fnExactRemoveCoSpec)

/-- ITS FALSE NEIGHBOUR: 'it returns false'. Refute it at one input. -/
def fnExactRemoveCoWrong : ChangeSpec := { name := "fnExactRemoveCo", fn := fun _ => fun
  | [d1, d2] => { results := [.lit (.bool false)], args := [d1, d2] }
  | _ => none }
def FnExactRemoveCoWrongFalsely : Prop := fnExactRemoveCoRow.holds Tryz.pinned (OpenSpec.ofChange fnExactRemoveCoWrong)

/-- 'laws.FnExactRefreshCo': WHATEVER THE INPUT: true; the input reads as it did. -/
def fnExactRefreshCoSpec : ChangeSpec := { name := "fnExactRefreshCo", fn := fun _ => fun
  | [d1, d2] => { results := [.lit (.bool true)], args := [d1, d2] }
  | _ => none }
def fnExactRefreshCoRow : OpenClaim := { program := "ytnaaflejkfaiaaagreat", sum := "f7f8c85bfa06bc56d4bed8a41f9c2ff3e72476bdca01a8ee0b0df482412be4f0", func := "loop.example/g00873/laws.FnExactRefreshCo", spec := "fnExactRefreshCo", unfollowed := true, recurses := true, loops := true, apart := false }
def FnExactRefreshCoSaid : Prop := fnExactRefreshCoRow.holds Tryz.pinned (OpenSpec.ofChange fnExactRefreshCoSpec)

/-- ITS FALSE NEIGHBOUR: 'it returns false'. Refute it at one input. -/
def fnExactRefreshCoWrong : ChangeSpec := { name := "fnExactRefreshCo", fn := fun _ => fun
  | [d1, d2] => { results := [.lit (.bool false)], args := [d1, d2] }
  | _ => none }
def FnExactRefreshCoWrongFalsely : Prop := fnExactRefreshCoRow.holds Tryz.pinned (OpenSpec.ofChange fnExactRefreshCoWrong)

/- THE SECOND FORM. 'bulk': how many values and letters a reading holds, each counted each time it is reached (what is shared counts as often as it is met; a slice's spare places count too). A statement '..UptoSaid' is the law's where the arguments, and the package variables that the reading takes, are together of bulk at most 1048576: NARROWER than '..Said'. Prove '..Said' where nothing that the law and all that it calls make is longer than what came in: it says more and counts as full. Else prove '..UptoSaid'. A law counts once. -/
mutual
def uptoBulk {H : Type} : DataW H → Nat
  | .lit (.string bytes) => bytes.length + 1
  | .lit _ => 1
  | .nil => 1
  | .ptr d => uptoBulk d + 1
  | .slice elems spare => uptoBulkAll elems + uptoBulkAll spare + 1
  | .agg parts => uptoBulkAll parts + 1
  | .iface _ d => uptoBulk d + 1
  | .map entries => uptoBulkEntries entries + 1
  | .held _ => 1
def uptoBulkAll {H : Type} : List (DataW H) → Nat
  | [] => 0
  | d :: r => uptoBulk d + uptoBulkAll r
def uptoBulkEntries {H : Type} : List (Lit × DataW H) → Nat
  | [] => 0
  | x :: r => uptoBulkEntry x + uptoBulkEntries r
def uptoBulkEntry {H : Type} : Lit × DataW H → Nat
  | (.string bytes, d) => bytes.length + uptoBulk d + 1
  | (_, d) => uptoBulk d + 1
 end
def uptoSmall : (H : Type) → List (DataW H) → Bool := fun _ ds => decide (uptoBulkAll ds ≤ 1048576)
def OpenSpec.upto (s : _root_.Go.ChangeSpec) : _root_.Go.OpenSpec := { _root_.Go.OpenSpec.ofChange s with cond := some uptoSmall }

/-- 'laws.FnExactNewMemory', WHERE WHAT IT READS IS OF BULK AT MOST 1048576: true; the input reads as it did. -/
def fnExactNewMemoryUptoRow : OpenClaim := { program := "ytnaaflejkfaiaaagreat", sum := "f7f8c85bfa06bc56d4bed8a41f9c2ff3e72476bdca01a8ee0b0df482412be4f0", func := "loop.example/g00873/laws.FnExactNewMemory", spec := "fnExactNewMemory", unfollowed := true, recurses := true, apart := false, narrowed := true }
def FnExactNewMemoryUptoSaid : Prop := fnExactNewMemoryUptoRow.holds Tryz.pinned (OpenSpec.upto fnExactNewMemorySpec)

/-- 'laws.FnExactCoAt', WHERE WHAT IT READS IS OF BULK AT MOST 1048576: true; the input reads as it did. -/
def fnExactCoAtUptoRow : OpenClaim := { program := "ytnaaflejkfaiaaagreat", sum := "f7f8c85bfa06bc56d4bed8a41f9c2ff3e72476bdca01a8ee0b0df482412be4f0", func := "loop.example/g00873/laws.FnExactCoAt", spec := "fnExactCoAt", unfollowed := true, recurses := true, loops := true, apart := false, narrowed := true }
def FnExactCoAtUptoSaid : Prop := fnExactCoAtUptoRow.holds Tryz.pinned (OpenSpec.upto fnExactCoAtSpec)

/-- 'laws.FnExactCreateCo', WHERE WHAT IT READS IS OF BULK AT MOST 1048576: true; the input reads as it did. -/
def fnExactCreateCoUptoRow : OpenClaim := { program := "ytnaaflejkfaiaaagreat", sum := "f7f8c85bfa06bc56d4bed8a41f9c2ff3e72476bdca01a8ee0b0df482412be4f0", func := "loop.example/g00873/laws.FnExactCreateCo", spec := "fnExactCreateCo", unfollowed := true, recurses := true, loops := true, apart := false, narrowed := true }
def FnExactCreateCoUptoSaid : Prop := fnExactCreateCoUptoRow.holds Tryz.pinned (OpenSpec.upto fnExactCreateCoSpec)

/-- 'laws.FnExactRemoveCo', WHERE WHAT IT READS IS OF BULK AT MOST 1048576: true; the input reads as it did. -/
def fnExactRemoveCoUptoRow : OpenClaim := { program := "ytnaaflejkfaiaaagreat", sum := "f7f8c85bfa06bc56d4bed8a41f9c2ff3e72476bdca01a8ee0b0df482412be4f0", func := "loop.example/g00873/laws.FnExactRemoveCo", spec := "fnExactRemoveCo", unfollowed := true, recurses := true, loops := true, apart := false, narrowed := true }
def FnExactRemoveCoUptoSaid : Prop := fnExactRemoveCoUptoRow.holds Tryz.pinned (OpenSpec.upto fnExactRemoveCoSpec)

/-- 'laws.FnExactRefreshCo', WHERE WHAT IT READS IS OF BULK AT MOST 1048576: true; the input reads as it did. -/
def fnExactRefreshCoUptoRow : OpenClaim := { program := "ytnaaflejkfaiaaagreat", sum := "f7f8c85bfa06bc56d4bed8a41f9c2ff3e72476bdca01a8ee0b0df482412be4f0", func := "loop.example/g00873/laws.FnExactRefreshCo", spec := "fnExactRefreshCo", unfollowed := true, recurses := true, loops := true, apart := false, narrowed := true }
def FnExactRefreshCoUptoSaid : Prop := fnExactRefreshCoUptoRow.holds Tryz.pinned (OpenSpec.upto fnExactRefreshCoSpec)

end Rows
end Go.Proofs.YtnaaflejkfaiaaaGreat
