/-
  DERIVED. GIVEN WITH THE SEED: THE CARDS: each row of YtoikhhnmbbbjjaaDoorRows.lean that lists a variable, with what it lists TIED to the program's text (the seventh form; the later family's looks); each row that meets fmt, with fmt's text TOLD by the authors' own Lean function (tested against real Go, not proved from fmt's source: count such statements apart). THE CARD IS WHAT COUNTS. Prove the row's statement (the work); the ties are given (YtoikhhnmbbbjjaaDoorTie.lean); close each card by the builder's one call (the guide's Derived/Test/ToyasCard.lean, 'card_holds'). Laid BY PROGRAM, IN A SANDBOX (cutbox-door.mjs). By AI agents, Wed Nov 11 2026. No macro, syntax, notation, axiom, sorry.
-/
import Derived.Test.YtoikhhnmbbbjjaaDoorRows
import GoSem.ClaimSeven
namespace Go.Proofs.YtoikhhnmbbbjjaaDoor
namespace Rows

/-- THE TIED CARD OF 'laws.FnCopies'. -/
def fnCopiesCard : Claim7 := { stood := { row := fnCopiesRow, standIns := [], harness := (true, "3547da752ee961793c51f9a05fe3b734effcb89cf33d5d84b0e41b127da42f5c"), looks := false }, kinds := [], alts := [], laidByText := true, laidKinds := [.listed, .data], laidTests := true, laidLooks := .later }
def FnCopiesCardSaid : Prop := Claim7.holds Tryd.pinned (.plain (OpenSpec.ofChange fnCopiesSpec)) fnCopiesCard

/-- THE SECOND FORM's CARD OF 'laws.FnCopies'. -/
def fnCopiesUptoCard : Claim7 := { stood := { row := fnCopiesUptoRow, standIns := [], harness := (true, "3547da752ee961793c51f9a05fe3b734effcb89cf33d5d84b0e41b127da42f5c"), looks := false }, kinds := [], alts := [], laidByText := true, laidKinds := [.listed, .data], laidTests := true, laidLooks := .later }
def FnCopiesUptoCardSaid : Prop := Claim7.holds Tryd.pinned (.plain (OpenSpec.upto fnCopiesSpec)) fnCopiesUptoCard
end Rows
end Go.Proofs.YtoikhhnmbbbjjaaDoor
