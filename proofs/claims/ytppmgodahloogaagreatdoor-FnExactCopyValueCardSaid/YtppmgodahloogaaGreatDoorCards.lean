/-
  DERIVED. GIVEN WITH THE SEED: THE CARDS: each row of YtppmgodahloogaaGreatDoorRows.lean that lists a variable, with what it lists TIED to the program's text (the seventh form; the later family's looks); each row that meets fmt, with fmt's text TOLD by the authors' own Lean function (tested against real Go, not proved from fmt's source: count such statements apart). THE CARD IS WHAT COUNTS. Prove the row's statement (the work); the ties are given (YtppmgodahloogaaGreatDoorTie.lean); close each card by the builder's one call (the guide's Derived/Test/ToyasCard.lean, 'card_holds'). Laid BY PROGRAM, IN A SANDBOX (cutbox-door.mjs). By AI agents, Wed Nov 11 2026. No macro, syntax, notation, axiom, sorry.
-/
import Derived.Test.YtppmgodahloogaaGreatDoorRows
import GoSem.ClaimSeven
namespace Go.Proofs.YtppmgodahloogaaGreatDoor
namespace Rows

/-- THE TIED CARD OF 'laws.FnExactCopyValue'. -/
def fnExactCopyValueCard : Claim7 := { stood := { row := fnExactCopyValueRow, standIns := [], harness := (true, "6b43402fc4387b57a428a695e19d880838e8b6b09fb00e7b20a1fd54de624db1"), looks := false }, kinds := [], alts := [], laidByText := true, laidKinds := [.listed, .data], laidTests := true, laidLooks := .later }
def FnExactCopyValueCardSaid : Prop := Claim7.holds Tryz.pinned (.plain (OpenSpec.ofChange fnExactCopyValueSpec)) fnExactCopyValueCard

/-- THE SECOND FORM's CARD OF 'laws.FnExactCopyValue'. -/
def fnExactCopyValueUptoCard : Claim7 := { stood := { row := fnExactCopyValueUptoRow, standIns := [], harness := (true, "6b43402fc4387b57a428a695e19d880838e8b6b09fb00e7b20a1fd54de624db1"), looks := false }, kinds := [], alts := [], laidByText := true, laidKinds := [.listed, .data], laidTests := true, laidLooks := .later }
def FnExactCopyValueUptoCardSaid : Prop := Claim7.holds Tryz.pinned (.plain (OpenSpec.upto fnExactCopyValueSpec)) fnExactCopyValueUptoCard
end Rows
end Go.Proofs.YtppmgodahloogaaGreatDoor
