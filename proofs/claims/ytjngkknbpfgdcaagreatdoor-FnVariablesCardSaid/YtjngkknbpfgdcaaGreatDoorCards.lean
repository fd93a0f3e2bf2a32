/-
  DERIVED. GIVEN WITH THE SEED: THE CARDS: each row of YtjngkknbpfgdcaaGreatDoorRows.lean that lists a variable, with what it lists TIED to the program's text (the seventh form; the later family's looks); each row that meets fmt, with fmt's text TOLD by the authors' own Lean function (tested against real Go, not proved from fmt's source: count such statements apart). THE CARD IS WHAT COUNTS. Prove the row's statement (the work); the ties are given (YtjngkknbpfgdcaaGreatDoorTie.lean); close each card by the builder's one call (the guide's Derived/Test/ToyasCard.lean, 'card_holds'). Laid BY PROGRAM, IN A SANDBOX (cutbox-door.mjs). By AI agents, Wed Nov 11 2026. No macro, syntax, notation, axiom, sorry.
-/
import Derived.Test.YtjngkknbpfgdcaaGreatDoorRows
import GoSem.ClaimSeven
namespace Go.Proofs.YtjngkknbpfgdcaaGreatDoor
namespace Rows

/-- THE TIED CARD OF 'laws.FnVariables'. -/
def fnVariablesCard : Claim7 := { stood := { row := fnVariablesRow, standIns := [], harness := (true, "e9a0179b9bfddb68e0d4a052ac1f2d54172c4f85e9f3b6f96c398a8bc740ecad"), looks := false }, kinds := [], alts := [], laidByText := true, laidKinds := [.data, .data, .data, .listed, .data], laidTests := true, laidLooks := .later }
def FnVariablesCardSaid : Prop := Claim7.holds Tryz.pinned (.plain (OpenSpec.ofChange fnVariablesSpec)) fnVariablesCard

/-- THE TIED CARD OF 'laws.FnExactWriteVariable'. -/
def fnExactWriteVariableCard : Claim7 := { stood := { row := fnExactWriteVariableRow, standIns := [], harness := (true, "e9a0179b9bfddb68e0d4a052ac1f2d54172c4f85e9f3b6f96c398a8bc740ecad"), looks := false }, kinds := [], alts := [], laidByText := true, laidKinds := [.data, .data, .data, .listed, .data], laidTests := true, laidLooks := .later }
def FnExactWriteVariableCardSaid : Prop := Claim7.holds Tryz.pinned (.plain (OpenSpec.ofChange fnExactWriteVariableSpec)) fnExactWriteVariableCard

/-- THE SECOND FORM's CARD OF 'laws.FnVariables'. -/
def fnVariablesUptoCard : Claim7 := { stood := { row := fnVariablesUptoRow, standIns := [], harness := (true, "e9a0179b9bfddb68e0d4a052ac1f2d54172c4f85e9f3b6f96c398a8bc740ecad"), looks := false }, kinds := [], alts := [], laidByText := true, laidKinds := [.data, .data, .data, .listed, .data], laidTests := true, laidLooks := .later }
def FnVariablesUptoCardSaid : Prop := Claim7.holds Tryz.pinned (.plain (OpenSpec.upto fnVariablesSpec)) fnVariablesUptoCard

/-- THE SECOND FORM's CARD OF 'laws.FnExactWriteVariable'. -/
def fnExactWriteVariableUptoCard : Claim7 := { stood := { row := fnExactWriteVariableUptoRow, standIns := [], harness := (true, "e9a0179b9bfddb68e0d4a052ac1f2d54172c4f85e9f3b6f96c398a8bc740ecad"), looks := false }, kinds := [], alts := [], laidByText := true, laidKinds := [.data, .data, .data, .listed, .data], laidTests := true, laidLooks := .later }
def FnExactWriteVariableUptoCardSaid : Prop := Claim7.holds Tryz.pinned (.plain (OpenSpec.upto fnExactWriteVariableSpec)) fnExactWriteVariableUptoCard
end Rows
end Go.Proofs.YtjngkknbpfgdcaaGreatDoor
