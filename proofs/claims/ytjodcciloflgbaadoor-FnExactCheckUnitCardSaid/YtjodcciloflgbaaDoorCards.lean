/-
  DERIVED. GIVEN WITH THE SEED: THE CARDS: each row of YtjodcciloflgbaaDoorRows.lean that lists a variable, with what it lists TIED to the program's text (the seventh form; the later family's looks); each row that meets fmt, with fmt's text TOLD by the authors' own Lean function (tested against real Go, not proved from fmt's source: count such statements apart). THE CARD IS WHAT COUNTS. Prove the row's statement (the work); the ties are given (YtjodcciloflgbaaDoorTie.lean); close each card by the builder's one call (the guide's Derived/Test/ToyasCard.lean, 'card_holds'). Laid BY PROGRAM, IN A SANDBOX (cutbox-door.mjs). By AI agents, Wed Nov 11 2026. No macro, syntax, notation, axiom, sorry.
-/
import Derived.Test.YtjodcciloflgbaaDoorRows
import GoSem.ClaimSeven
namespace Go.Proofs.YtjodcciloflgbaaDoor
namespace Rows

/-- THE TIED CARD OF 'laws.FnExactResolveName'. -/
def fnExactResolveNameCard : Claim7 := { stood := { row := fnExactResolveNameRow, standIns := [], harness := (true, "f72730a340ef9f20309463965b3efa06abb756026cf4f6ac4d96137f4e776a04"), looks := false }, kinds := [], alts := [], laidByText := true, laidKinds := [.listed, .data], laidTests := true, laidLooks := .later }
def FnExactResolveNameCardSaid : Prop := Claim7.holds Tryd.pinned (.plain (OpenSpec.ofChange fnExactResolveNameSpec)) fnExactResolveNameCard

/-- THE TIED CARD OF 'laws.FnExactCheckUnit'. -/
def fnExactCheckUnitCard : Claim7 := { stood := { row := fnExactCheckUnitRow, standIns := [], harness := (true, "f72730a340ef9f20309463965b3efa06abb756026cf4f6ac4d96137f4e776a04"), looks := false }, kinds := [], alts := [], laidByText := true, laidKinds := [.listed, .data], laidTests := true, laidLooks := .later }
def FnExactCheckUnitCardSaid : Prop := Claim7.holds Tryd.pinned (.plain (OpenSpec.ofChange fnExactCheckUnitSpec)) fnExactCheckUnitCard

/-- THE TIED CARD OF 'laws.FnExactLocalNames'. -/
def fnExactLocalNamesCard : Claim7 := { stood := { row := fnExactLocalNamesRow, standIns := [], harness := (true, "f72730a340ef9f20309463965b3efa06abb756026cf4f6ac4d96137f4e776a04"), looks := false }, kinds := [], alts := [], laidByText := true, laidKinds := [.listed, .data], laidTests := true, laidLooks := .later }
def FnExactLocalNamesCardSaid : Prop := Claim7.holds Tryd.pinned (.plain (OpenSpec.ofChange fnExactLocalNamesSpec)) fnExactLocalNamesCard

/-- THE SECOND FORM's CARD OF 'laws.FnExactResolveName'. -/
def fnExactResolveNameUptoCard : Claim7 := { stood := { row := fnExactResolveNameUptoRow, standIns := [], harness := (true, "f72730a340ef9f20309463965b3efa06abb756026cf4f6ac4d96137f4e776a04"), looks := false }, kinds := [], alts := [], laidByText := true, laidKinds := [.listed, .data], laidTests := true, laidLooks := .later }
def FnExactResolveNameUptoCardSaid : Prop := Claim7.holds Tryd.pinned (.plain (OpenSpec.upto fnExactResolveNameSpec)) fnExactResolveNameUptoCard

/-- THE SECOND FORM's CARD OF 'laws.FnExactCheckUnit'. -/
def fnExactCheckUnitUptoCard : Claim7 := { stood := { row := fnExactCheckUnitUptoRow, standIns := [], harness := (true, "f72730a340ef9f20309463965b3efa06abb756026cf4f6ac4d96137f4e776a04"), looks := false }, kinds := [], alts := [], laidByText := true, laidKinds := [.listed, .data], laidTests := true, laidLooks := .later }
def FnExactCheckUnitUptoCardSaid : Prop := Claim7.holds Tryd.pinned (.plain (OpenSpec.upto fnExactCheckUnitSpec)) fnExactCheckUnitUptoCard

/-- THE SECOND FORM's CARD OF 'laws.FnExactLocalNames'. -/
def fnExactLocalNamesUptoCard : Claim7 := { stood := { row := fnExactLocalNamesUptoRow, standIns := [], harness := (true, "f72730a340ef9f20309463965b3efa06abb756026cf4f6ac4d96137f4e776a04"), looks := false }, kinds := [], alts := [], laidByText := true, laidKinds := [.listed, .data], laidTests := true, laidLooks := .later }
def FnExactLocalNamesUptoCardSaid : Prop := Claim7.holds Tryd.pinned (.plain (OpenSpec.upto fnExactLocalNamesSpec)) fnExactLocalNamesUptoCard
end Rows
end Go.Proofs.YtjodcciloflgbaaDoor
