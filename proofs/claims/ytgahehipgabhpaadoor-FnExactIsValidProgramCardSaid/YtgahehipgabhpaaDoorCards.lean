/-
  DERIVED. GIVEN WITH THE SEED: THE CARDS: each row of YtgahehipgabhpaaDoorRows.lean that lists a variable, with what it lists TIED to the program's text (the seventh form; the later family's looks); each row that meets fmt, with fmt's text TOLD by the authors' own Lean function (tested against real Go, not proved from fmt's source: count such statements apart). THE CARD IS WHAT COUNTS. Prove the row's statement (the work); the ties are given (YtgahehipgabhpaaDoorTie.lean); close each card by the builder's one call (the guide's Derived/Test/ToyasCard.lean, 'card_holds'). Laid BY PROGRAM, IN A SANDBOX (cutbox-door.mjs). By AI agents, Wed Nov 11 2026. No macro, syntax, notation, axiom, sorry.
-/
import Derived.Test.YtgahehipgabhpaaDoorRows
import GoSem.ClaimSeven
namespace Go.Proofs.YtgahehipgabhpaaDoor
namespace Rows

/-- THE TIED CARD OF 'laws.FnExactIsValidProgram'. -/
def fnExactIsValidProgramCard : Claim7 := { stood := { row := fnExactIsValidProgramRow, standIns := [], harness := (true, "4ff138db5d0757badc2bfbb412cd377599949d6e2d2351d4241ef88de0146c57"), looks := false }, kinds := [], alts := [], laidByText := true, laidKinds := [.listed, .data], laidTests := true, laidLooks := .later }
def FnExactIsValidProgramCardSaid : Prop := Claim7.holds Tryd.pinned (.plain (OpenSpec.ofChange fnExactIsValidProgramSpec)) fnExactIsValidProgramCard

/-- THE SECOND FORM's CARD OF 'laws.FnExactIsValidProgram'. -/
def fnExactIsValidProgramUptoCard : Claim7 := { stood := { row := fnExactIsValidProgramUptoRow, standIns := [], harness := (true, "4ff138db5d0757badc2bfbb412cd377599949d6e2d2351d4241ef88de0146c57"), looks := false }, kinds := [], alts := [], laidByText := true, laidKinds := [.listed, .data], laidTests := true, laidLooks := .later }
def FnExactIsValidProgramUptoCardSaid : Prop := Claim7.holds Tryd.pinned (.plain (OpenSpec.upto fnExactIsValidProgramSpec)) fnExactIsValidProgramUptoCard
end Rows
end Go.Proofs.YtgahehipgabhpaaDoor
