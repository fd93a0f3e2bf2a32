/-
  DERIVED. GIVEN WITH THE SEED: THE CARDS: each row of YteihfioaahemkaaGreatDoorRows.lean that lists a variable, with what it lists TIED to the program's text (the seventh form; the later family's looks); each row that meets fmt, with fmt's text TOLD by the authors' own Lean function (tested against real Go, not proved from fmt's source: count such statements apart). THE CARD IS WHAT COUNTS. Prove the row's statement (the work); the ties are given (YteihfioaahemkaaGreatDoorTie.lean); close each card by the builder's one call (the guide's Derived/Test/ToyasCard.lean, 'card_holds'). Laid BY PROGRAM, IN A SANDBOX (cutbox-door.mjs). By AI agents, Wed Nov 11 2026. No macro, syntax, notation, axiom, sorry.
-/
import Derived.Test.YteihfioaahemkaaGreatDoorRows
import GoSem.ClaimSeven
namespace Go.Proofs.YteihfioaahemkaaGreatDoor
namespace Rows

/-- THE TIED CARD OF 'laws.FnExactSizeOfValue'. -/
def fnExactSizeOfValueCard : Claim7 := { stood := { row := fnExactSizeOfValueRow, standIns := [], harness := (true, "3c14674af9894ec10cfc870704a4c6ed6d78291681b6159512f2b0b04372c4ee"), looks := false }, kinds := [], alts := [], laidByText := true, laidKinds := [.data, .data, .data, .listed, .data], laidTests := true, laidLooks := .later }
def FnExactSizeOfValueCardSaid : Prop := Claim7.holds Tryz.pinned (.plain (OpenSpec.ofChange fnExactSizeOfValueSpec)) fnExactSizeOfValueCard

/-- THE TIED CARD OF 'laws.FnExactImageOf'. -/
def fnExactImageOfCard : Claim7 := { stood := { row := fnExactImageOfRow, standIns := [], harness := (true, "3c14674af9894ec10cfc870704a4c6ed6d78291681b6159512f2b0b04372c4ee"), looks := false }, kinds := [], alts := [], laidByText := true, laidKinds := [.data, .data, .data, .listed, .data], laidTests := true, laidLooks := .later }
def FnExactImageOfCardSaid : Prop := Claim7.holds Tryz.pinned (.plain (OpenSpec.ofChange fnExactImageOfSpec)) fnExactImageOfCard

/-- THE SECOND FORM's CARD OF 'laws.FnExactSizeOfValue'. -/
def fnExactSizeOfValueUptoCard : Claim7 := { stood := { row := fnExactSizeOfValueUptoRow, standIns := [], harness := (true, "3c14674af9894ec10cfc870704a4c6ed6d78291681b6159512f2b0b04372c4ee"), looks := false }, kinds := [], alts := [], laidByText := true, laidKinds := [.data, .data, .data, .listed, .data], laidTests := true, laidLooks := .later }
def FnExactSizeOfValueUptoCardSaid : Prop := Claim7.holds Tryz.pinned (.plain (OpenSpec.upto fnExactSizeOfValueSpec)) fnExactSizeOfValueUptoCard

/-- THE SECOND FORM's CARD OF 'laws.FnExactImageOf'. -/
def fnExactImageOfUptoCard : Claim7 := { stood := { row := fnExactImageOfUptoRow, standIns := [], harness := (true, "3c14674af9894ec10cfc870704a4c6ed6d78291681b6159512f2b0b04372c4ee"), looks := false }, kinds := [], alts := [], laidByText := true, laidKinds := [.data, .data, .data, .listed, .data], laidTests := true, laidLooks := .later }
def FnExactImageOfUptoCardSaid : Prop := Claim7.holds Tryz.pinned (.plain (OpenSpec.upto fnExactImageOfSpec)) fnExactImageOfUptoCard
end Rows
end Go.Proofs.YteihfioaahemkaaGreatDoor
