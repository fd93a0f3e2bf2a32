/-
  DERIVED. GIVEN WITH THE SEED: THE CARDS: each row of YtficlopcolglnaaDoorRows.lean that lists a variable, with what it lists TIED to the program's text (the seventh form; the later family's looks); each row that meets fmt, with fmt's text TOLD by the authors' own Lean function (tested against real Go, not proved from fmt's source: count such statements apart). THE CARD IS WHAT COUNTS. Prove the row's statement (the work); the ties are given (YtficlopcolglnaaDoorTie.lean); close each card by the builder's one call (the guide's Derived/Test/ToyasCard.lean, 'card_holds'). Laid BY PROGRAM, IN A SANDBOX (cutbox-door.mjs). By AI agents, Wed Nov 11 2026. No macro, syntax, notation, axiom, sorry.
-/
import Derived.Test.YtficlopcolglnaaDoorRows
import GoSem.ClaimSeven
namespace Go.Proofs.YtficlopcolglnaaDoor
namespace Rows

/-- THE TIED CARD OF 'laws.FnExactFunctionName'. -/
def fnExactFunctionNameCard : Claim7 := { stood := { row := fnExactFunctionNameRow, standIns := [], harness := (true, "b517bca124a3686b4b8d4d92520f68f7a95a64c51b48bad8e416a6e554fd22d0"), looks := false }, kinds := [], alts := [], laidByText := true, laidKinds := [.listed, .data], laidTests := true, laidLooks := .later }
def FnExactFunctionNameCardSaid : Prop := Claim7.holds Tryd.pinned (.plain (OpenSpec.ofChange fnExactFunctionNameSpec)) fnExactFunctionNameCard

/-- THE TIED CARD OF 'laws.FnExactFunctionNumber'. -/
def fnExactFunctionNumberCard : Claim7 := { stood := { row := fnExactFunctionNumberRow, standIns := [], harness := (true, "b517bca124a3686b4b8d4d92520f68f7a95a64c51b48bad8e416a6e554fd22d0"), looks := false }, kinds := [], alts := [], laidByText := true, laidKinds := [.listed, .data], laidTests := true, laidLooks := .later }
def FnExactFunctionNumberCardSaid : Prop := Claim7.holds Tryd.pinned (.plain (OpenSpec.ofChange fnExactFunctionNumberSpec)) fnExactFunctionNumberCard

/-- THE TIED CARD OF 'laws.FnExactOperatorText'. -/
def fnExactOperatorTextCard : Claim7 := { stood := { row := fnExactOperatorTextRow, standIns := [], harness := (true, "b517bca124a3686b4b8d4d92520f68f7a95a64c51b48bad8e416a6e554fd22d0"), looks := false }, kinds := [], alts := [], laidByText := true, laidKinds := [.listed, .data], laidTests := true, laidLooks := .later }
def FnExactOperatorTextCardSaid : Prop := Claim7.holds Tryd.pinned (.plain (OpenSpec.ofChange fnExactOperatorTextSpec)) fnExactOperatorTextCard

/-- THE TIED CARD OF 'laws.FnExactOperatorArity'. -/
def fnExactOperatorArityCard : Claim7 := { stood := { row := fnExactOperatorArityRow, standIns := [], harness := (true, "b517bca124a3686b4b8d4d92520f68f7a95a64c51b48bad8e416a6e554fd22d0"), looks := false }, kinds := [], alts := [], laidByText := true, laidKinds := [.listed, .data], laidTests := true, laidLooks := .later }
def FnExactOperatorArityCardSaid : Prop := Claim7.holds Tryd.pinned (.plain (OpenSpec.ofChange fnExactOperatorAritySpec)) fnExactOperatorArityCard

/-- THE TIED CARD OF 'laws.FnExactToText'. -/
def fnExactToTextCard : Claim7 := { stood := { row := fnExactToTextRow, standIns := [], harness := (true, "b517bca124a3686b4b8d4d92520f68f7a95a64c51b48bad8e416a6e554fd22d0"), looks := false }, kinds := [], alts := [], laidByText := true, laidKinds := [.data, .data, .data], laidTests := true, laidLooks := .later }
def FnExactToTextCardSaid : Prop := Claim7.holds Tryd.pinned (.plain (OpenSpec.ofChange fnExactToTextSpec)) fnExactToTextCard

/-- THE TIED CARD OF 'laws.FnConversions'. -/
def fnConversionsCard : Claim7 := { stood := { row := fnConversionsRow, standIns := [], harness := (true, "b517bca124a3686b4b8d4d92520f68f7a95a64c51b48bad8e416a6e554fd22d0"), looks := false }, kinds := [], alts := [], laidByText := true, laidKinds := [.data, .data, .data], laidTests := true, laidLooks := .later }
def FnConversionsCardSaid : Prop := Claim7.holds Tryd.pinned (.plain (OpenSpec.ofChange fnConversionsSpec)) fnConversionsCard

/-- THE TIED CARD OF 'laws.FnExactToCset'. -/
def fnExactToCsetCard : Claim7 := { stood := { row := fnExactToCsetRow, standIns := [], harness := (true, "b517bca124a3686b4b8d4d92520f68f7a95a64c51b48bad8e416a6e554fd22d0"), looks := false }, kinds := [], alts := [], laidByText := true, laidKinds := [.data, .data, .data], laidTests := true, laidLooks := .later }
def FnExactToCsetCardSaid : Prop := Claim7.holds Tryd.pinned (.plain (OpenSpec.ofChange fnExactToCsetSpec)) fnExactToCsetCard

/-- THE TIED CARD OF 'laws.FnExactToInteger'. -/
def fnExactToIntegerCard : Claim7 := { stood := { row := fnExactToIntegerRow, standIns := [], harness := (true, "b517bca124a3686b4b8d4d92520f68f7a95a64c51b48bad8e416a6e554fd22d0"), looks := false }, kinds := [], alts := [], laidByText := true, laidKinds := [.data, .data, .data], laidTests := true, laidLooks := .later }
def FnExactToIntegerCardSaid : Prop := Claim7.holds Tryd.pinned (.plain (OpenSpec.ofChange fnExactToIntegerSpec)) fnExactToIntegerCard

/-- THE TIED CARD OF 'laws.FnExactUnaryValue'. -/
def fnExactUnaryValueCard : Claim7 := { stood := { row := fnExactUnaryValueRow, standIns := [], harness := (true, "b517bca124a3686b4b8d4d92520f68f7a95a64c51b48bad8e416a6e554fd22d0"), looks := false }, kinds := [], alts := [], laidByText := true, laidKinds := [.data, .data, .data], laidTests := true, laidLooks := .later }
def FnExactUnaryValueCardSaid : Prop := Claim7.holds Tryd.pinned (.plain (OpenSpec.ofChange fnExactUnaryValueSpec)) fnExactUnaryValueCard

/-- THE TIED CARD OF 'laws.FnSums'. -/
def fnSumsCard : Claim7 := { stood := { row := fnSumsRow, standIns := [], harness := (true, "b517bca124a3686b4b8d4d92520f68f7a95a64c51b48bad8e416a6e554fd22d0"), looks := false }, kinds := [], alts := [], laidByText := true, laidKinds := [.data, .data, .data, .listed, .data], laidTests := true, laidLooks := .later }
def FnSumsCardSaid : Prop := Claim7.holds Tryd.pinned (.plain (OpenSpec.ofChange fnSumsSpec)) fnSumsCard

/-- THE TIED CARD OF 'laws.FnExactBinaryValue'. -/
def fnExactBinaryValueCard : Claim7 := { stood := { row := fnExactBinaryValueRow, standIns := [], harness := (true, "b517bca124a3686b4b8d4d92520f68f7a95a64c51b48bad8e416a6e554fd22d0"), looks := false }, kinds := [], alts := [], laidByText := true, laidKinds := [.data, .data, .data, .listed, .data], laidTests := true, laidLooks := .later }
def FnExactBinaryValueCardSaid : Prop := Claim7.holds Tryd.pinned (.plain (OpenSpec.ofChange fnExactBinaryValueSpec)) fnExactBinaryValueCard

/-- THE TIED CARD OF 'laws.FnOrder'. -/
def fnOrderCard : Claim7 := { stood := { row := fnOrderRow, standIns := [], harness := (true, "b517bca124a3686b4b8d4d92520f68f7a95a64c51b48bad8e416a6e554fd22d0"), looks := false }, kinds := [], alts := [], laidByText := true, laidKinds := [.data, .data, .data, .listed, .data], laidTests := true, laidLooks := .later }
def FnOrderCardSaid : Prop := Claim7.holds Tryd.pinned (.plain (OpenSpec.ofChange fnOrderSpec)) fnOrderCard

/-- THE SECOND FORM's CARD OF 'laws.FnExactFunctionName'. -/
def fnExactFunctionNameUptoCard : Claim7 := { stood := { row := fnExactFunctionNameUptoRow, standIns := [], harness := (true, "b517bca124a3686b4b8d4d92520f68f7a95a64c51b48bad8e416a6e554fd22d0"), looks := false }, kinds := [], alts := [], laidByText := true, laidKinds := [.listed, .data], laidTests := true, laidLooks := .later }
def FnExactFunctionNameUptoCardSaid : Prop := Claim7.holds Tryd.pinned (.plain (OpenSpec.upto fnExactFunctionNameSpec)) fnExactFunctionNameUptoCard

/-- THE SECOND FORM's CARD OF 'laws.FnExactFunctionNumber'. -/
def fnExactFunctionNumberUptoCard : Claim7 := { stood := { row := fnExactFunctionNumberUptoRow, standIns := [], harness := (true, "b517bca124a3686b4b8d4d92520f68f7a95a64c51b48bad8e416a6e554fd22d0"), looks := false }, kinds := [], alts := [], laidByText := true, laidKinds := [.listed, .data], laidTests := true, laidLooks := .later }
def FnExactFunctionNumberUptoCardSaid : Prop := Claim7.holds Tryd.pinned (.plain (OpenSpec.upto fnExactFunctionNumberSpec)) fnExactFunctionNumberUptoCard

/-- THE SECOND FORM's CARD OF 'laws.FnExactOperatorText'. -/
def fnExactOperatorTextUptoCard : Claim7 := { stood := { row := fnExactOperatorTextUptoRow, standIns := [], harness := (true, "b517bca124a3686b4b8d4d92520f68f7a95a64c51b48bad8e416a6e554fd22d0"), looks := false }, kinds := [], alts := [], laidByText := true, laidKinds := [.listed, .data], laidTests := true, laidLooks := .later }
def FnExactOperatorTextUptoCardSaid : Prop := Claim7.holds Tryd.pinned (.plain (OpenSpec.upto fnExactOperatorTextSpec)) fnExactOperatorTextUptoCard

/-- THE SECOND FORM's CARD OF 'laws.FnExactOperatorArity'. -/
def fnExactOperatorArityUptoCard : Claim7 := { stood := { row := fnExactOperatorArityUptoRow, standIns := [], harness := (true, "b517bca124a3686b4b8d4d92520f68f7a95a64c51b48bad8e416a6e554fd22d0"), looks := false }, kinds := [], alts := [], laidByText := true, laidKinds := [.listed, .data], laidTests := true, laidLooks := .later }
def FnExactOperatorArityUptoCardSaid : Prop := Claim7.holds Tryd.pinned (.plain (OpenSpec.upto fnExactOperatorAritySpec)) fnExactOperatorArityUptoCard

/-- THE SECOND FORM's CARD OF 'laws.FnExactToText'. -/
def fnExactToTextUptoCard : Claim7 := { stood := { row := fnExactToTextUptoRow, standIns := [], harness := (true, "b517bca124a3686b4b8d4d92520f68f7a95a64c51b48bad8e416a6e554fd22d0"), looks := false }, kinds := [], alts := [], laidByText := true, laidKinds := [.data, .data, .data], laidTests := true, laidLooks := .later }
def FnExactToTextUptoCardSaid : Prop := Claim7.holds Tryd.pinned (.plain (OpenSpec.upto fnExactToTextSpec)) fnExactToTextUptoCard

/-- THE SECOND FORM's CARD OF 'laws.FnConversions'. -/
def fnConversionsUptoCard : Claim7 := { stood := { row := fnConversionsUptoRow, standIns := [], harness := (true, "b517bca124a3686b4b8d4d92520f68f7a95a64c51b48bad8e416a6e554fd22d0"), looks := false }, kinds := [], alts := [], laidByText := true, laidKinds := [.data, .data, .data], laidTests := true, laidLooks := .later }
def FnConversionsUptoCardSaid : Prop := Claim7.holds Tryd.pinned (.plain (OpenSpec.upto fnConversionsSpec)) fnConversionsUptoCard

/-- THE SECOND FORM's CARD OF 'laws.FnExactToCset'. -/
def fnExactToCsetUptoCard : Claim7 := { stood := { row := fnExactToCsetUptoRow, standIns := [], harness := (true, "b517bca124a3686b4b8d4d92520f68f7a95a64c51b48bad8e416a6e554fd22d0"), looks := false }, kinds := [], alts := [], laidByText := true, laidKinds := [.data, .data, .data], laidTests := true, laidLooks := .later }
def FnExactToCsetUptoCardSaid : Prop := Claim7.holds Tryd.pinned (.plain (OpenSpec.upto fnExactToCsetSpec)) fnExactToCsetUptoCard

/-- THE SECOND FORM's CARD OF 'laws.FnExactToInteger'. -/
def fnExactToIntegerUptoCard : Claim7 := { stood := { row := fnExactToIntegerUptoRow, standIns := [], harness := (true, "b517bca124a3686b4b8d4d92520f68f7a95a64c51b48bad8e416a6e554fd22d0"), looks := false }, kinds := [], alts := [], laidByText := true, laidKinds := [.data, .data, .data], laidTests := true, laidLooks := .later }
def FnExactToIntegerUptoCardSaid : Prop := Claim7.holds Tryd.pinned (.plain (OpenSpec.upto fnExactToIntegerSpec)) fnExactToIntegerUptoCard

/-- THE SECOND FORM's CARD OF 'laws.FnExactUnaryValue'. -/
def fnExactUnaryValueUptoCard : Claim7 := { stood := { row := fnExactUnaryValueUptoRow, standIns := [], harness := (true, "b517bca124a3686b4b8d4d92520f68f7a95a64c51b48bad8e416a6e554fd22d0"), looks := false }, kinds := [], alts := [], laidByText := true, laidKinds := [.data, .data, .data], laidTests := true, laidLooks := .later }
def FnExactUnaryValueUptoCardSaid : Prop := Claim7.holds Tryd.pinned (.plain (OpenSpec.upto fnExactUnaryValueSpec)) fnExactUnaryValueUptoCard

/-- THE SECOND FORM's CARD OF 'laws.FnSums'. -/
def fnSumsUptoCard : Claim7 := { stood := { row := fnSumsUptoRow, standIns := [], harness := (true, "b517bca124a3686b4b8d4d92520f68f7a95a64c51b48bad8e416a6e554fd22d0"), looks := false }, kinds := [], alts := [], laidByText := true, laidKinds := [.data, .data, .data, .listed, .data], laidTests := true, laidLooks := .later }
def FnSumsUptoCardSaid : Prop := Claim7.holds Tryd.pinned (.plain (OpenSpec.upto fnSumsSpec)) fnSumsUptoCard

/-- THE SECOND FORM's CARD OF 'laws.FnExactBinaryValue'. -/
def fnExactBinaryValueUptoCard : Claim7 := { stood := { row := fnExactBinaryValueUptoRow, standIns := [], harness := (true, "b517bca124a3686b4b8d4d92520f68f7a95a64c51b48bad8e416a6e554fd22d0"), looks := false }, kinds := [], alts := [], laidByText := true, laidKinds := [.data, .data, .data, .listed, .data], laidTests := true, laidLooks := .later }
def FnExactBinaryValueUptoCardSaid : Prop := Claim7.holds Tryd.pinned (.plain (OpenSpec.upto fnExactBinaryValueSpec)) fnExactBinaryValueUptoCard

/-- THE SECOND FORM's CARD OF 'laws.FnOrder'. -/
def fnOrderUptoCard : Claim7 := { stood := { row := fnOrderUptoRow, standIns := [], harness := (true, "b517bca124a3686b4b8d4d92520f68f7a95a64c51b48bad8e416a6e554fd22d0"), looks := false }, kinds := [], alts := [], laidByText := true, laidKinds := [.data, .data, .data, .listed, .data], laidTests := true, laidLooks := .later }
def FnOrderUptoCardSaid : Prop := Claim7.holds Tryd.pinned (.plain (OpenSpec.upto fnOrderSpec)) fnOrderUptoCard
end Rows
end Go.Proofs.YtficlopcolglnaaDoor
