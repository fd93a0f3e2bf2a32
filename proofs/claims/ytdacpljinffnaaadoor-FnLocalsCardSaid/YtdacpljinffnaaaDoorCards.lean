/-
  DERIVED. GIVEN WITH THE SEED: THE CARDS: each row of YtdacpljinffnaaaDoorRows.lean that lists a variable, with what it lists TIED to the program's text (the seventh form; the later family's looks); each row that meets fmt, with fmt's text TOLD by the authors' own Lean function (tested against real Go, not proved from fmt's source: count such statements apart). THE CARD IS WHAT COUNTS. Prove the row's statement (the work); the ties are given (YtdacpljinffnaaaDoorTie.lean); close each card by the builder's one call (the guide's Derived/Test/ToyasCard.lean, 'card_holds'). Laid BY PROGRAM, IN A SANDBOX (cutbox-door.mjs). By AI agents, Wed Nov 11 2026. No macro, syntax, notation, axiom, sorry.
-/
import Derived.Test.YtdacpljinffnaaaDoorRows
import GoSem.ClaimSeven
namespace Go.Proofs.YtdacpljinffnaaaDoor
namespace Rows

/-- THE TIED CARD OF 'laws.FnLocals'. -/
def fnLocalsCard : Claim7 := { stood := { row := fnLocalsRow, standIns := [], harness := (true, "89d0d2b5a838158e9f5854efbd2024f4933a9ca290c7336a4f5dd9d3605ad57b"), looks := false }, kinds := [], alts := [], laidByText := true, laidKinds := [.listed, .data], laidTests := true, laidLooks := .later }
def FnLocalsCardSaid : Prop := Claim7.holds Tryd.pinned (.plain (OpenSpec.ofChange fnLocalsSpec)) fnLocalsCard

/-- THE SECOND FORM's CARD OF 'laws.FnLocals'. -/
def fnLocalsUptoCard : Claim7 := { stood := { row := fnLocalsUptoRow, standIns := [], harness := (true, "89d0d2b5a838158e9f5854efbd2024f4933a9ca290c7336a4f5dd9d3605ad57b"), looks := false }, kinds := [], alts := [], laidByText := true, laidKinds := [.listed, .data], laidTests := true, laidLooks := .later }
def FnLocalsUptoCardSaid : Prop := Claim7.holds Tryd.pinned (.plain (OpenSpec.upto fnLocalsSpec)) fnLocalsUptoCard
end Rows
end Go.Proofs.YtdacpljinffnaaaDoor
