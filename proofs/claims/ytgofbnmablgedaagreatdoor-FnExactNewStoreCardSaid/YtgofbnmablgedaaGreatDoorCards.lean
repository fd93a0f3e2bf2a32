/-
  DERIVED. GIVEN WITH THE SEED: THE CARDS: each row of YtgofbnmablgedaaGreatDoorRows.lean that lists a variable, with what it lists TIED to the program's text (the seventh form; the later family's looks); each row that meets fmt, with fmt's text TOLD by the authors' own Lean function (tested against real Go, not proved from fmt's source: count such statements apart). THE CARD IS WHAT COUNTS. Prove the row's statement (the work); the ties are given (YtgofbnmablgedaaGreatDoorTie.lean); close each card by the builder's one call (the guide's Derived/Test/ToyasCard.lean, 'card_holds'). Laid BY PROGRAM, IN A SANDBOX (cutbox-door.mjs). By AI agents, Wed Nov 11 2026. No macro, syntax, notation, axiom, sorry.
-/
import Derived.Test.YtgofbnmablgedaaGreatDoorRows
import GoSem.ClaimSeven
namespace Go.Proofs.YtgofbnmablgedaaGreatDoor
namespace Rows

/-- THE TIED CARD OF 'laws.FnExactNewStore'. -/
def fnExactNewStoreCard : Claim7 := { stood := { row := fnExactNewStoreRow, standIns := [], harness := (true, "c97ec7d7824117f576f73f8cea8a40982c86904f59fcf00fdff6d214c59880b8"), looks := false }, kinds := [], alts := [], laidByText := true, laidKinds := [.listed, .data], laidTests := true, laidLooks := .later }
def FnExactNewStoreCardSaid : Prop := Claim7.holds Tryz.pinned (.plain (OpenSpec.ofChange fnExactNewStoreSpec)) fnExactNewStoreCard

/-- THE SECOND FORM's CARD OF 'laws.FnExactNewStore'. -/
def fnExactNewStoreUptoCard : Claim7 := { stood := { row := fnExactNewStoreUptoRow, standIns := [], harness := (true, "c97ec7d7824117f576f73f8cea8a40982c86904f59fcf00fdff6d214c59880b8"), looks := false }, kinds := [], alts := [], laidByText := true, laidKinds := [.listed, .data], laidTests := true, laidLooks := .later }
def FnExactNewStoreUptoCardSaid : Prop := Claim7.holds Tryz.pinned (.plain (OpenSpec.upto fnExactNewStoreSpec)) fnExactNewStoreUptoCard
end Rows
end Go.Proofs.YtgofbnmablgedaaGreatDoor
