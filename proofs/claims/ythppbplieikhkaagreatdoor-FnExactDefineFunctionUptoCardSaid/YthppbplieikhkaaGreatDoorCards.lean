/-
  DERIVED. GIVEN WITH THE SEED: THE CARDS: each row of YthppbplieikhkaaGreatDoorRows.lean that lists a variable, with what it lists TIED to the program's text (the seventh form; the later family's looks); each row that meets fmt, with fmt's text TOLD by the authors' own Lean function (tested against real Go, not proved from fmt's source: count such statements apart). THE CARD IS WHAT COUNTS. Prove the row's statement (the work); the ties are given (YthppbplieikhkaaGreatDoorTie.lean); close each card by the builder's one call (the guide's Derived/Test/ToyasCard.lean, 'card_holds'). Laid BY PROGRAM, IN A SANDBOX (cutbox-door.mjs). By AI agents, Wed Nov 11 2026. No macro, syntax, notation, axiom, sorry.
-/
import Derived.Test.YthppbplieikhkaaGreatDoorRows
import GoSem.ClaimSeven
namespace Go.Proofs.YthppbplieikhkaaGreatDoor
namespace Rows

/-- THE TIED CARD OF 'laws.FnExactDefineType'. -/
def fnExactDefineTypeCard : Claim7 := { stood := { row := fnExactDefineTypeRow, standIns := [], harness := (true, "227500c046f68650a912233e11ed7f617c5c35c0fce1172ba48c28f4d1f14e50"), looks := false }, kinds := [], alts := [], laidByText := true, laidKinds := [.data, .pinned], laidTests := true, laidLooks := .later }
def FnExactDefineTypeCardSaid : Prop := Claim7.holds Tryz.pinned (.plain (OpenSpec.ofChange fnExactDefineTypeSpec)) fnExactDefineTypeCard

/-- THE TIED CARD OF 'laws.FnExactDefineFunction'. -/
def fnExactDefineFunctionCard : Claim7 := { stood := { row := fnExactDefineFunctionRow, standIns := [], harness := (true, "227500c046f68650a912233e11ed7f617c5c35c0fce1172ba48c28f4d1f14e50"), looks := false }, kinds := [], alts := [], laidByText := true, laidKinds := [.data, .pinned], laidTests := true, laidLooks := .later }
def FnExactDefineFunctionCardSaid : Prop := Claim7.holds Tryz.pinned (.plain (OpenSpec.ofChange fnExactDefineFunctionSpec)) fnExactDefineFunctionCard

/-- THE TIED CARD OF 'laws.FnDefinitions'. -/
def fnDefinitionsCard : Claim7 := { stood := { row := fnDefinitionsRow, standIns := [], harness := (true, "227500c046f68650a912233e11ed7f617c5c35c0fce1172ba48c28f4d1f14e50"), looks := false }, kinds := [], alts := [], laidByText := true, laidKinds := [.data, .pinned], laidTests := true, laidLooks := .later }
def FnDefinitionsCardSaid : Prop := Claim7.holds Tryz.pinned (.plain (OpenSpec.ofChange fnDefinitionsSpec)) fnDefinitionsCard

/-- THE SECOND FORM's CARD OF 'laws.FnExactDefineType'. -/
def fnExactDefineTypeUptoCard : Claim7 := { stood := { row := fnExactDefineTypeUptoRow, standIns := [], harness := (true, "227500c046f68650a912233e11ed7f617c5c35c0fce1172ba48c28f4d1f14e50"), looks := false }, kinds := [], alts := [], laidByText := true, laidKinds := [.data, .pinned], laidTests := true, laidLooks := .later }
def FnExactDefineTypeUptoCardSaid : Prop := Claim7.holds Tryz.pinned (.plain (OpenSpec.upto fnExactDefineTypeSpec)) fnExactDefineTypeUptoCard

/-- THE SECOND FORM's CARD OF 'laws.FnExactDefineFunction'. -/
def fnExactDefineFunctionUptoCard : Claim7 := { stood := { row := fnExactDefineFunctionUptoRow, standIns := [], harness := (true, "227500c046f68650a912233e11ed7f617c5c35c0fce1172ba48c28f4d1f14e50"), looks := false }, kinds := [], alts := [], laidByText := true, laidKinds := [.data, .pinned], laidTests := true, laidLooks := .later }
def FnExactDefineFunctionUptoCardSaid : Prop := Claim7.holds Tryz.pinned (.plain (OpenSpec.upto fnExactDefineFunctionSpec)) fnExactDefineFunctionUptoCard

/-- THE SECOND FORM's CARD OF 'laws.FnDefinitions'. -/
def fnDefinitionsUptoCard : Claim7 := { stood := { row := fnDefinitionsUptoRow, standIns := [], harness := (true, "227500c046f68650a912233e11ed7f617c5c35c0fce1172ba48c28f4d1f14e50"), looks := false }, kinds := [], alts := [], laidByText := true, laidKinds := [.data, .pinned], laidTests := true, laidLooks := .later }
def FnDefinitionsUptoCardSaid : Prop := Claim7.holds Tryz.pinned (.plain (OpenSpec.upto fnDefinitionsSpec)) fnDefinitionsUptoCard
end Rows
end Go.Proofs.YthppbplieikhkaaGreatDoor
