/-
  DERIVED. GIVEN WITH THE SEED: THE CARDS: each row of YtehcjlkgfgpjnaaGreatDoorRows.lean that lists a variable, with what it lists TIED to the program's text (the seventh form; the later family's looks); each row that meets fmt, with fmt's text TOLD by the authors' own Lean function (tested against real Go, not proved from fmt's source: count such statements apart). THE CARD IS WHAT COUNTS. Prove the row's statement (the work); the ties are given (YtehcjlkgfgpjnaaGreatDoorTie.lean); close each card by the builder's one call (the guide's Derived/Test/ToyasCard.lean, 'card_holds'). Laid BY PROGRAM, IN A SANDBOX (cutbox-door.mjs). By AI agents, Wed Nov 11 2026. No macro, syntax, notation, axiom, sorry.
-/
import Derived.Test.YtehcjlkgfgpjnaaGreatDoorRows
import GoSem.ClaimSeven
namespace Go.Proofs.YtehcjlkgfgpjnaaGreatDoor
namespace Rows

/-- THE TIED CARD OF 'laws.FnExactDumpOf'. -/
def fnExactDumpOfCard : Claim7 := { stood := { row := fnExactDumpOfRow, standIns := [], harness := (true, "93d57c3b8c24da0e226e76a591b0eff28bf1ed6e7afc896b43d4d8446acdac67"), looks := false }, kinds := [], alts := [], laidByText := true, laidKinds := [.data, .data, .data, .listed, .data], laidTests := true, laidLooks := .later }
def FnExactDumpOfCardSaid : Prop := Claim7.holds Tryz.pinned (.plain (OpenSpec.ofChange fnExactDumpOfSpec)) fnExactDumpOfCard

/-- THE TIED CARD OF 'laws.FnImages'. -/
def fnImagesCard : Claim7 := { stood := { row := fnImagesRow, standIns := [], harness := (true, "93d57c3b8c24da0e226e76a591b0eff28bf1ed6e7afc896b43d4d8446acdac67"), looks := false }, kinds := [], alts := [], laidByText := true, laidKinds := [.data, .data, .data, .listed, .data], laidTests := true, laidLooks := .later }
def FnImagesCardSaid : Prop := Claim7.holds Tryz.pinned (.plain (OpenSpec.ofChange fnImagesSpec)) fnImagesCard

/-- THE SECOND FORM's CARD OF 'laws.FnExactDumpOf'. -/
def fnExactDumpOfUptoCard : Claim7 := { stood := { row := fnExactDumpOfUptoRow, standIns := [], harness := (true, "93d57c3b8c24da0e226e76a591b0eff28bf1ed6e7afc896b43d4d8446acdac67"), looks := false }, kinds := [], alts := [], laidByText := true, laidKinds := [.data, .data, .data, .listed, .data], laidTests := true, laidLooks := .later }
def FnExactDumpOfUptoCardSaid : Prop := Claim7.holds Tryz.pinned (.plain (OpenSpec.upto fnExactDumpOfSpec)) fnExactDumpOfUptoCard

/-- THE SECOND FORM's CARD OF 'laws.FnImages'. -/
def fnImagesUptoCard : Claim7 := { stood := { row := fnImagesUptoRow, standIns := [], harness := (true, "93d57c3b8c24da0e226e76a591b0eff28bf1ed6e7afc896b43d4d8446acdac67"), looks := false }, kinds := [], alts := [], laidByText := true, laidKinds := [.data, .data, .data, .listed, .data], laidTests := true, laidLooks := .later }
def FnImagesUptoCardSaid : Prop := Claim7.holds Tryz.pinned (.plain (OpenSpec.upto fnImagesSpec)) fnImagesUptoCard
end Rows
end Go.Proofs.YtehcjlkgfgpjnaaGreatDoor
