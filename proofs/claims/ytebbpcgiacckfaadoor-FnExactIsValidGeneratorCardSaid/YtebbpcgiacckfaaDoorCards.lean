/-
  DERIVED. GIVEN WITH THE SEED: THE CARDS: each row of YtebbpcgiacckfaaDoorRows.lean that lists a variable, with what it lists TIED to the program's text (the seventh form; the later family's looks); each row that meets fmt, with fmt's text TOLD by the authors' own Lean function (tested against real Go, not proved from fmt's source: count such statements apart). THE CARD IS WHAT COUNTS. Prove the row's statement (the work); the ties are given (YtebbpcgiacckfaaDoorTie.lean); close each card by the builder's one call (the guide's Derived/Test/ToyasCard.lean, 'card_holds'). Laid BY PROGRAM, IN A SANDBOX (cutbox-door.mjs). By AI agents, Wed Nov 11 2026. No macro, syntax, notation, axiom, sorry.
-/
import Derived.Test.YtebbpcgiacckfaaDoorRows
import GoSem.ClaimSeven
namespace Go.Proofs.YtebbpcgiacckfaaDoor
namespace Rows

/-- THE TIED CARD OF 'laws.FnExactIsValidStore'. -/
def fnExactIsValidStoreCard : Claim7 := { stood := { row := fnExactIsValidStoreRow, standIns := [], harness := (true, "d99e2ab20fa1a7dc950f775e721b65da58b70f20aeb378b1559eafd2cdbe8c57"), looks := false }, kinds := [], alts := [], laidByText := true, laidKinds := [.listed, .data], laidTests := true, laidLooks := .later }
def FnExactIsValidStoreCardSaid : Prop := Claim7.holds Tryd.pinned (.plain (OpenSpec.ofChange fnExactIsValidStoreSpec)) fnExactIsValidStoreCard

/-- THE TIED CARD OF 'laws.FnExactIsValueIn'. -/
def fnExactIsValueInCard : Claim7 := { stood := { row := fnExactIsValueInRow, standIns := [], harness := (true, "d99e2ab20fa1a7dc950f775e721b65da58b70f20aeb378b1559eafd2cdbe8c57"), looks := false }, kinds := [], alts := [], laidByText := true, laidKinds := [.listed, .data], laidTests := true, laidLooks := .later }
def FnExactIsValueInCardSaid : Prop := Claim7.holds Tryd.pinned (.plain (OpenSpec.ofChange fnExactIsValueInSpec)) fnExactIsValueInCard

/-- THE TIED CARD OF 'laws.FnExactReadVariable'. -/
def fnExactReadVariableCard : Claim7 := { stood := { row := fnExactReadVariableRow, standIns := [], harness := (true, "d99e2ab20fa1a7dc950f775e721b65da58b70f20aeb378b1559eafd2cdbe8c57"), looks := false }, kinds := [], alts := [], laidByText := true, laidKinds := [.listed, .data], laidTests := true, laidLooks := .later }
def FnExactReadVariableCardSaid : Prop := Claim7.holds Tryd.pinned (.plain (OpenSpec.ofChange fnExactReadVariableSpec)) fnExactReadVariableCard

/-- THE TIED CARD OF 'laws.FnExactIsValidGenerator'. -/
def fnExactIsValidGeneratorCard : Claim7 := { stood := { row := fnExactIsValidGeneratorRow, standIns := [], harness := (true, "d99e2ab20fa1a7dc950f775e721b65da58b70f20aeb378b1559eafd2cdbe8c57"), looks := false }, kinds := [], alts := [], laidByText := true, laidKinds := [.listed, .data], laidTests := true, laidLooks := .later }
def FnExactIsValidGeneratorCardSaid : Prop := Claim7.holds Tryd.pinned (.plain (OpenSpec.ofChange fnExactIsValidGeneratorSpec)) fnExactIsValidGeneratorCard

/-- THE SECOND FORM's CARD OF 'laws.FnExactIsValidStore'. -/
def fnExactIsValidStoreUptoCard : Claim7 := { stood := { row := fnExactIsValidStoreUptoRow, standIns := [], harness := (true, "d99e2ab20fa1a7dc950f775e721b65da58b70f20aeb378b1559eafd2cdbe8c57"), looks := false }, kinds := [], alts := [], laidByText := true, laidKinds := [.listed, .data], laidTests := true, laidLooks := .later }
def FnExactIsValidStoreUptoCardSaid : Prop := Claim7.holds Tryd.pinned (.plain (OpenSpec.upto fnExactIsValidStoreSpec)) fnExactIsValidStoreUptoCard

/-- THE SECOND FORM's CARD OF 'laws.FnExactIsValueIn'. -/
def fnExactIsValueInUptoCard : Claim7 := { stood := { row := fnExactIsValueInUptoRow, standIns := [], harness := (true, "d99e2ab20fa1a7dc950f775e721b65da58b70f20aeb378b1559eafd2cdbe8c57"), looks := false }, kinds := [], alts := [], laidByText := true, laidKinds := [.listed, .data], laidTests := true, laidLooks := .later }
def FnExactIsValueInUptoCardSaid : Prop := Claim7.holds Tryd.pinned (.plain (OpenSpec.upto fnExactIsValueInSpec)) fnExactIsValueInUptoCard

/-- THE SECOND FORM's CARD OF 'laws.FnExactReadVariable'. -/
def fnExactReadVariableUptoCard : Claim7 := { stood := { row := fnExactReadVariableUptoRow, standIns := [], harness := (true, "d99e2ab20fa1a7dc950f775e721b65da58b70f20aeb378b1559eafd2cdbe8c57"), looks := false }, kinds := [], alts := [], laidByText := true, laidKinds := [.listed, .data], laidTests := true, laidLooks := .later }
def FnExactReadVariableUptoCardSaid : Prop := Claim7.holds Tryd.pinned (.plain (OpenSpec.upto fnExactReadVariableSpec)) fnExactReadVariableUptoCard

/-- THE SECOND FORM's CARD OF 'laws.FnExactIsValidGenerator'. -/
def fnExactIsValidGeneratorUptoCard : Claim7 := { stood := { row := fnExactIsValidGeneratorUptoRow, standIns := [], harness := (true, "d99e2ab20fa1a7dc950f775e721b65da58b70f20aeb378b1559eafd2cdbe8c57"), looks := false }, kinds := [], alts := [], laidByText := true, laidKinds := [.listed, .data], laidTests := true, laidLooks := .later }
def FnExactIsValidGeneratorUptoCardSaid : Prop := Claim7.holds Tryd.pinned (.plain (OpenSpec.upto fnExactIsValidGeneratorSpec)) fnExactIsValidGeneratorUptoCard
end Rows
end Go.Proofs.YtebbpcgiacckfaaDoor
