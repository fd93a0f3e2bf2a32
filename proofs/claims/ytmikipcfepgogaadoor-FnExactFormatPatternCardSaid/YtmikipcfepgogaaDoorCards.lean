/-
  DERIVED. GIVEN WITH THE SEED: THE CARDS: each row of YtmikipcfepgogaaDoorRows.lean that lists a variable, with what it lists TIED to the program's text (the seventh form; the later family's looks); each row that meets fmt, with fmt's text TOLD by the authors' own Lean function (tested against real Go, not proved from fmt's source: count such statements apart). THE CARD IS WHAT COUNTS. Prove the row's statement (the work); the ties are given (YtmikipcfepgogaaDoorTie.lean); close each card by the builder's one call (the guide's Derived/Test/ToyasCard.lean, 'card_holds'). Laid BY PROGRAM, IN A SANDBOX (cutbox-door.mjs). By AI agents, Wed Nov 11 2026. No macro, syntax, notation, axiom, sorry.
-/
import Derived.Test.YtmikipcfepgogaaDoorRows
import GoSem.ClaimSeven
namespace Go.Proofs.YtmikipcfepgogaaDoor
namespace Rows

/-- THE TIED CARD OF 'laws.FnExactFormatPattern'. -/
def fnExactFormatPatternCard : Claim7 := { stood := { row := fnExactFormatPatternRow, standIns := [], harness := (true, "a6cceaa1dfbe3e21ab0d0b8873ce46353118aa6d7dbf770c553d0b7ba1587c82"), looks := false }, kinds := [], alts := [], laidByText := true, laidKinds := [.data, .data, .data], laidTests := true, laidLooks := .later }
def FnExactFormatPatternCardSaid : Prop := Claim7.holds Tryd.pinned (.plain (OpenSpec.ofChange fnExactFormatPatternSpec)) fnExactFormatPatternCard

/-- THE TIED CARD OF 'laws.FnExactFormatCore'. -/
def fnExactFormatCoreCard : Claim7 := { stood := { row := fnExactFormatCoreRow, standIns := [], harness := (true, "a6cceaa1dfbe3e21ab0d0b8873ce46353118aa6d7dbf770c553d0b7ba1587c82"), looks := false }, kinds := [], alts := [], laidByText := true, laidKinds := [.data, .data, .data, .listed, .data], laidTests := true, laidLooks := .later }
def FnExactFormatCoreCardSaid : Prop := Claim7.holds Tryd.pinned (.plain (OpenSpec.ofChange fnExactFormatCoreSpec)) fnExactFormatCoreCard

/-- THE TIED CARD OF 'laws.FnExactBinaryValue'. -/
def fnExactBinaryValueCard : Claim7 := { stood := { row := fnExactBinaryValueRow, standIns := [], harness := (true, "a6cceaa1dfbe3e21ab0d0b8873ce46353118aa6d7dbf770c553d0b7ba1587c82"), looks := false }, kinds := [], alts := [], laidByText := true, laidKinds := [.data, .data, .data, .listed, .data], laidTests := true, laidLooks := .later }
def FnExactBinaryValueCardSaid : Prop := Claim7.holds Tryd.pinned (.plain (OpenSpec.ofChange fnExactBinaryValueSpec)) fnExactBinaryValueCard

/-- THE SECOND FORM's CARD OF 'laws.FnExactFormatPattern'. -/
def fnExactFormatPatternUptoCard : Claim7 := { stood := { row := fnExactFormatPatternUptoRow, standIns := [], harness := (true, "a6cceaa1dfbe3e21ab0d0b8873ce46353118aa6d7dbf770c553d0b7ba1587c82"), looks := false }, kinds := [], alts := [], laidByText := true, laidKinds := [.data, .data, .data], laidTests := true, laidLooks := .later }
def FnExactFormatPatternUptoCardSaid : Prop := Claim7.holds Tryd.pinned (.plain (OpenSpec.upto fnExactFormatPatternSpec)) fnExactFormatPatternUptoCard

/-- THE SECOND FORM's CARD OF 'laws.FnExactFormatCore'. -/
def fnExactFormatCoreUptoCard : Claim7 := { stood := { row := fnExactFormatCoreUptoRow, standIns := [], harness := (true, "a6cceaa1dfbe3e21ab0d0b8873ce46353118aa6d7dbf770c553d0b7ba1587c82"), looks := false }, kinds := [], alts := [], laidByText := true, laidKinds := [.data, .data, .data, .listed, .data], laidTests := true, laidLooks := .later }
def FnExactFormatCoreUptoCardSaid : Prop := Claim7.holds Tryd.pinned (.plain (OpenSpec.upto fnExactFormatCoreSpec)) fnExactFormatCoreUptoCard

/-- THE SECOND FORM's CARD OF 'laws.FnExactBinaryValue'. -/
def fnExactBinaryValueUptoCard : Claim7 := { stood := { row := fnExactBinaryValueUptoRow, standIns := [], harness := (true, "a6cceaa1dfbe3e21ab0d0b8873ce46353118aa6d7dbf770c553d0b7ba1587c82"), looks := false }, kinds := [], alts := [], laidByText := true, laidKinds := [.data, .data, .data, .listed, .data], laidTests := true, laidLooks := .later }
def FnExactBinaryValueUptoCardSaid : Prop := Claim7.holds Tryd.pinned (.plain (OpenSpec.upto fnExactBinaryValueSpec)) fnExactBinaryValueUptoCard
end Rows
end Go.Proofs.YtmikipcfepgogaaDoor
