/-
  DERIVED. GIVEN WITH THE SEED: THE CARDS: each row of YtpcimcamjlbagaaDoorRows.lean that lists a variable, with what it lists TIED to the program's text (the seventh form; the later family's looks); each row that meets fmt, with fmt's text TOLD by the authors' own Lean function (tested against real Go, not proved from fmt's source: count such statements apart). THE CARD IS WHAT COUNTS. Prove the row's statement (the work); the ties are given (YtpcimcamjlbagaaDoorTie.lean); close each card by the builder's one call (the guide's Derived/Test/ToyasCard.lean, 'card_holds'). Laid BY PROGRAM, IN A SANDBOX (cutbox-door.mjs). By AI agents, Wed Nov 11 2026. No macro, syntax, notation, axiom, sorry.
-/
import Derived.Test.YtpcimcamjlbagaaDoorRows
import GoSem.ClaimSeven
namespace Go.Proofs.YtpcimcamjlbagaaDoor
namespace Rows

/-- THE TIED CARD OF 'laws.FnExactFormatCore'. -/
def fnExactFormatCoreCard : Claim7 := { stood := { row := fnExactFormatCoreRow, standIns := [], harness := (true, "e2ff92cbf9cbf88e8089ff4ac70ca8e4dab689c38e77f2b77db5037da7230742"), looks := false }, kinds := [], alts := [], laidByText := true, laidKinds := [.data, .data, .data, .listed, .data], laidTests := true, laidLooks := .later }
def FnExactFormatCoreCardSaid : Prop := Claim7.holds Tryd.pinned (.plain (OpenSpec.ofChange fnExactFormatCoreSpec)) fnExactFormatCoreCard

/-- THE SECOND FORM's CARD OF 'laws.FnExactFormatCore'. -/
def fnExactFormatCoreUptoCard : Claim7 := { stood := { row := fnExactFormatCoreUptoRow, standIns := [], harness := (true, "e2ff92cbf9cbf88e8089ff4ac70ca8e4dab689c38e77f2b77db5037da7230742"), looks := false }, kinds := [], alts := [], laidByText := true, laidKinds := [.data, .data, .data, .listed, .data], laidTests := true, laidLooks := .later }
def FnExactFormatCoreUptoCardSaid : Prop := Claim7.holds Tryd.pinned (.plain (OpenSpec.upto fnExactFormatCoreSpec)) fnExactFormatCoreUptoCard
end Rows
end Go.Proofs.YtpcimcamjlbagaaDoor
