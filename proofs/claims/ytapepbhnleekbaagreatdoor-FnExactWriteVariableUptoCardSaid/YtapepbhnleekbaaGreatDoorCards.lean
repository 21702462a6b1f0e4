/-
  DERIVED. GIVEN WITH THE SEED: THE CARDS: each row of YtapepbhnleekbaaGreatDoorRows.lean that lists a variable, with what it lists TIED to the program's text (the seventh form; the later family's looks); each row that meets fmt, with fmt's text TOLD by the authors' own Lean function (tested against real Go, not proved from fmt's source: count such statements apart). THE CARD IS WHAT COUNTS. Prove the row's statement (the work); the ties are given (YtapepbhnleekbaaGreatDoorTie.lean); close each card by the builder's one call (the guide's Derived/Test/ToyasCard.lean, 'card_holds'). Laid BY PROGRAM, IN A SANDBOX (cutbox-door.mjs). By AI agents, Wed Nov 11 2026. No macro, syntax, notation, axiom, sorry.
-/
import Derived.Test.YtapepbhnleekbaaGreatDoorRows
import GoSem.ClaimSeven
namespace Go.Proofs.YtapepbhnleekbaaGreatDoor
namespace Rows

/-- THE TIED CARD OF 'laws.FnExactWriteVariable'. -/
def fnExactWriteVariableCard : Claim7 := { stood := { row := fnExactWriteVariableRow, standIns := [], harness := (true, "c10691d281ee221e3992bd2bc22b19f9ad9c27fc82c679129537cad428e8ce21"), looks := false }, kinds := [], alts := [], laidByText := true, laidKinds := [.data, .data, .data], laidTests := true, laidLooks := .later }
def FnExactWriteVariableCardSaid : Prop := Claim7.holds Tryz.pinned (.plain (OpenSpec.ofChange fnExactWriteVariableSpec)) fnExactWriteVariableCard

/-- THE TIED CARD OF 'laws.FnExactWriteTarget'. -/
def fnExactWriteTargetCard : Claim7 := { stood := { row := fnExactWriteTargetRow, standIns := [], harness := (true, "c10691d281ee221e3992bd2bc22b19f9ad9c27fc82c679129537cad428e8ce21"), looks := false }, kinds := [], alts := [], laidByText := true, laidKinds := [.data, .data, .data], laidTests := true, laidLooks := .later }
def FnExactWriteTargetCardSaid : Prop := Claim7.holds Tryz.pinned (.plain (OpenSpec.ofChange fnExactWriteTargetSpec)) fnExactWriteTargetCard

/-- THE SECOND FORM's CARD OF 'laws.FnExactWriteVariable'. -/
def fnExactWriteVariableUptoCard : Claim7 := { stood := { row := fnExactWriteVariableUptoRow, standIns := [], harness := (true, "c10691d281ee221e3992bd2bc22b19f9ad9c27fc82c679129537cad428e8ce21"), looks := false }, kinds := [], alts := [], laidByText := true, laidKinds := [.data, .data, .data], laidTests := true, laidLooks := .later }
def FnExactWriteVariableUptoCardSaid : Prop := Claim7.holds Tryz.pinned (.plain (OpenSpec.upto fnExactWriteVariableSpec)) fnExactWriteVariableUptoCard

/-- THE SECOND FORM's CARD OF 'laws.FnExactWriteTarget'. -/
def fnExactWriteTargetUptoCard : Claim7 := { stood := { row := fnExactWriteTargetUptoRow, standIns := [], harness := (true, "c10691d281ee221e3992bd2bc22b19f9ad9c27fc82c679129537cad428e8ce21"), looks := false }, kinds := [], alts := [], laidByText := true, laidKinds := [.data, .data, .data], laidTests := true, laidLooks := .later }
def FnExactWriteTargetUptoCardSaid : Prop := Claim7.holds Tryz.pinned (.plain (OpenSpec.upto fnExactWriteTargetSpec)) fnExactWriteTargetUptoCard
end Rows
end Go.Proofs.YtapepbhnleekbaaGreatDoor
