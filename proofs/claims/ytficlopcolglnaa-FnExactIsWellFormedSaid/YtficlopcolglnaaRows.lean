/-
  No cell of these rows narrows 'for every input' (looked for: loops, veiled, ifaces, maps, wideKeys, modest, calm, conditions, laid).
  DERIVED. THE GIVEN ROWS OF THIS SEAT. 13 by the template 'for every input the law returns true; each argument reads behind the call as it read before'; 0 by the template 'total and deterministic' (their statements: YtficlopcolglnaaTotals.lean).
  GIVEN WITH THE SEED: the statements are not yours to turn. If you find one false, say at which input.
  Laid BY PROGRAM, IN A SANDBOX (cutbox-rows.mjs): the forced cells as the released guide's own fill.sh prints them over the translation c8749314926333c0… (all of the seat's roots in one cut). By AI agents, Wed Nov 11 2026. No macro, syntax, notation, axiom, sorry.
-/
import Derived.Test.YtficlopcolglnaaChecked
import GoSem.Claim
import GoSem.ClaimJoined
import GoSem.ClaimMapViews
import Derived.JoinedTies
import Derived.KernelRfl
namespace Go.Proofs.Ytficlopcolglnaa
/- THE CELL 'sum', in the pinned program and in every row, IS THE sha256 OF THE DUMP (.gsa) THAT YtficlopcolglnaaProg.lean LOADS. Nothing in Lean hashes anything: it is a label: what it is worth is what the hold of that sum in a sandbox is worth. -/
noncomputable def Try.pinned : Pinned := { name := "ytficlopcolglnaa", sum := "c8749314926333c019d8b824a61c8c184dc5f2c3ab916422d95de6ef1c7219db", checked := Try.checked }
namespace Rows
def none {H : Type} : Left H := { results := [], args := [] }

/-- 'laws.FnExactMatchAt': WHATEVER THE INPUT: true; the input reads as it did. -/
def fnExactMatchAtSpec : ChangeSpec := { name := "fnExactMatchAt", fn := fun _ => fun
  | [d1, d2, d3] => { results := [.lit (.bool true)], args := [d1, d2, d3] }
  | _ => none }
def fnExactMatchAtRow : OpenClaim := { program := "ytficlopcolglnaa", sum := "c8749314926333c019d8b824a61c8c184dc5f2c3ab916422d95de6ef1c7219db", func := "loop.example/g03106/laws.FnExactMatchAt", spec := "fnExactMatchAt", apart := false }
def FnExactMatchAtSaid : Prop := fnExactMatchAtRow.holds Try.pinned (OpenSpec.ofChange fnExactMatchAtSpec)

/-- ITS FALSE NEIGHBOUR: 'it returns false'. Refute it at one input. -/
def fnExactMatchAtWrong : ChangeSpec := { name := "fnExactMatchAt", fn := fun _ => fun
  | [d1, d2, d3] => { results := [.lit (.bool false)], args := [d1, d2, d3] }
  | _ => none }
def FnExactMatchAtWrongFalsely : Prop := fnExactMatchAtRow.holds Try.pinned (OpenSpec.ofChange fnExactMatchAtWrong)

/-- 'laws.FnExactIsReference': WHATEVER THE INPUT: true; the input reads as it did. -/
def fnExactIsReferenceSpec : ChangeSpec := { name := "fnExactIsReference", fn := fun _ => fun
  | [d] => { results := [.lit (.bool true)], args := [d] }
  | _ => none }
def fnExactIsReferenceRow : OpenClaim := { program := "ytficlopcolglnaa", sum := "c8749314926333c019d8b824a61c8c184dc5f2c3ab916422d95de6ef1c7219db", func := "loop.example/g03106/laws.FnExactIsReference", spec := "fnExactIsReference", apart := false }
def FnExactIsReferenceSaid : Prop := fnExactIsReferenceRow.holds Try.pinned (OpenSpec.ofChange fnExactIsReferenceSpec)

/-- ITS FALSE NEIGHBOUR: 'it returns false'. Refute it at one input. -/
def fnExactIsReferenceWrong : ChangeSpec := { name := "fnExactIsReference", fn := fun _ => fun
  | [d] => { results := [.lit (.bool false)], args := [d] }
  | _ => none }
def FnExactIsReferenceWrongFalsely : Prop := fnExactIsReferenceRow.holds Try.pinned (OpenSpec.ofChange fnExactIsReferenceWrong)

/-- 'laws.FnExactAnyAt': WHATEVER THE INPUT: true; the input reads as it did. -/
def fnExactAnyAtSpec : ChangeSpec := { name := "fnExactAnyAt", fn := fun _ => fun
  | [d1, d2, d3] => { results := [.lit (.bool true)], args := [d1, d2, d3] }
  | _ => none }
def fnExactAnyAtRow : OpenClaim := { program := "ytficlopcolglnaa", sum := "c8749314926333c019d8b824a61c8c184dc5f2c3ab916422d95de6ef1c7219db", func := "loop.example/g03106/laws.FnExactAnyAt", spec := "fnExactAnyAt", apart := false }
def FnExactAnyAtSaid : Prop := fnExactAnyAtRow.holds Try.pinned (OpenSpec.ofChange fnExactAnyAtSpec)

/-- ITS FALSE NEIGHBOUR: 'it returns false'. Refute it at one input. -/
def fnExactAnyAtWrong : ChangeSpec := { name := "fnExactAnyAt", fn := fun _ => fun
  | [d1, d2, d3] => { results := [.lit (.bool false)], args := [d1, d2, d3] }
  | _ => none }
def FnExactAnyAtWrongFalsely : Prop := fnExactAnyAtRow.holds Try.pinned (OpenSpec.ofChange fnExactAnyAtWrong)

/-- 'laws.FnExactIntegerValue': WHATEVER THE INPUT: true; the input reads as it did. -/
def fnExactIntegerValueSpec : ChangeSpec := { name := "fnExactIntegerValue", fn := fun _ => fun
  | [d] => { results := [.lit (.bool true)], args := [d] }
  | _ => none }
def fnExactIntegerValueRow : OpenClaim := { program := "ytficlopcolglnaa", sum := "c8749314926333c019d8b824a61c8c184dc5f2c3ab916422d95de6ef1c7219db", func := "loop.example/g03106/laws.FnExactIntegerValue", spec := "fnExactIntegerValue", apart := false }
def FnExactIntegerValueSaid : Prop := fnExactIntegerValueRow.holds Try.pinned (OpenSpec.ofChange fnExactIntegerValueSpec)

/-- ITS FALSE NEIGHBOUR: 'it returns false'. Refute it at one input. -/
def fnExactIntegerValueWrong : ChangeSpec := { name := "fnExactIntegerValue", fn := fun _ => fun
  | [d] => { results := [.lit (.bool false)], args := [d] }
  | _ => none }
def FnExactIntegerValueWrongFalsely : Prop := fnExactIntegerValueRow.holds Try.pinned (OpenSpec.ofChange fnExactIntegerValueWrong)

/-- 'laws.FnExactStringValue': WHATEVER THE INPUT: true; the input reads as it did. -/
def fnExactStringValueSpec : ChangeSpec := { name := "fnExactStringValue", fn := fun _ => fun
  | [d] => { results := [.lit (.bool true)], args := [d] }
  | _ => none }
def fnExactStringValueRow : OpenClaim := { program := "ytficlopcolglnaa", sum := "c8749314926333c019d8b824a61c8c184dc5f2c3ab916422d95de6ef1c7219db", func := "loop.example/g03106/laws.FnExactStringValue", spec := "fnExactStringValue", apart := false }
def FnExactStringValueSaid : Prop := fnExactStringValueRow.holds Try.pinned (OpenSpec.ofChange fnExactStringValueSpec)

/-- ITS FALSE NEIGHBOUR: 'it returns false'. Refute it at one input. -/
def fnExactStringValueWrong : ChangeSpec := { name := "fnExactStringValue", fn := fun _ => fun
  | [d] => { results := [.lit (.bool false)], args := [d] }
  | _ => none }
def FnExactStringValueWrongFalsely : Prop := fnExactStringValueRow.holds Try.pinned (OpenSpec.ofChange fnExactStringValueWrong)

/-- 'laws.FnExactTypeName': WHATEVER THE INPUT: true; the input reads as it did. -/
def fnExactTypeNameSpec : ChangeSpec := { name := "fnExactTypeName", fn := fun _ => fun
  | [d] => { results := [.lit (.bool true)], args := [d] }
  | _ => none }
def fnExactTypeNameRow : OpenClaim := { program := "ytficlopcolglnaa", sum := "c8749314926333c019d8b824a61c8c184dc5f2c3ab916422d95de6ef1c7219db", func := "loop.example/g03106/laws.FnExactTypeName", spec := "fnExactTypeName", apart := false }
def FnExactTypeNameSaid : Prop := fnExactTypeNameRow.holds Try.pinned (OpenSpec.ofChange fnExactTypeNameSpec)

/-- ITS FALSE NEIGHBOUR: 'it returns false'. Refute it at one input. -/
def fnExactTypeNameWrong : ChangeSpec := { name := "fnExactTypeName", fn := fun _ => fun
  | [d] => { results := [.lit (.bool false)], args := [d] }
  | _ => none }
def FnExactTypeNameWrongFalsely : Prop := fnExactTypeNameRow.holds Try.pinned (OpenSpec.ofChange fnExactTypeNameWrong)

/-- 'laws.FnExactFaultText': WHATEVER THE INPUT: true; the input reads as it did. -/
def fnExactFaultTextSpec : ChangeSpec := { name := "fnExactFaultText", fn := fun _ => fun
  | [d] => { results := [.lit (.bool true)], args := [d] }
  | _ => none }
def fnExactFaultTextRow : OpenClaim := { program := "ytficlopcolglnaa", sum := "c8749314926333c019d8b824a61c8c184dc5f2c3ab916422d95de6ef1c7219db", func := "loop.example/g03106/laws.FnExactFaultText", spec := "fnExactFaultText", apart := false }
def FnExactFaultTextSaid : Prop := fnExactFaultTextRow.holds Try.pinned (OpenSpec.ofChange fnExactFaultTextSpec)

/-- ITS FALSE NEIGHBOUR: 'it returns false'. Refute it at one input. -/
def fnExactFaultTextWrong : ChangeSpec := { name := "fnExactFaultText", fn := fun _ => fun
  | [d] => { results := [.lit (.bool false)], args := [d] }
  | _ => none }
def FnExactFaultTextWrongFalsely : Prop := fnExactFaultTextRow.holds Try.pinned (OpenSpec.ofChange fnExactFaultTextWrong)

/-- 'laws.FnExactUptoFrom': WHATEVER THE INPUT: true; the input reads as it did. -/
def fnExactUptoFromSpec : ChangeSpec := { name := "fnExactUptoFrom", fn := fun _ => fun
  | [d1, d2, d3] => { results := [.lit (.bool true)], args := [d1, d2, d3] }
  | _ => none }
def fnExactUptoFromRow : OpenClaim := { program := "ytficlopcolglnaa", sum := "c8749314926333c019d8b824a61c8c184dc5f2c3ab916422d95de6ef1c7219db", func := "loop.example/g03106/laws.FnExactUptoFrom", spec := "fnExactUptoFrom", apart := false }
def FnExactUptoFromSaid : Prop := fnExactUptoFromRow.holds Try.pinned (OpenSpec.ofChange fnExactUptoFromSpec)

/-- ITS FALSE NEIGHBOUR: 'it returns false'. Refute it at one input. -/
def fnExactUptoFromWrong : ChangeSpec := { name := "fnExactUptoFrom", fn := fun _ => fun
  | [d1, d2, d3] => { results := [.lit (.bool false)], args := [d1, d2, d3] }
  | _ => none }
def FnExactUptoFromWrongFalsely : Prop := fnExactUptoFromRow.holds Try.pinned (OpenSpec.ofChange fnExactUptoFromWrong)

/-- 'laws.FnExactManyAt': WHATEVER THE INPUT: true; the input reads as it did. -/
def fnExactManyAtSpec : ChangeSpec := { name := "fnExactManyAt", fn := fun _ => fun
  | [d1, d2, d3] => { results := [.lit (.bool true)], args := [d1, d2, d3] }
  | _ => none }
def fnExactManyAtRow : OpenClaim := { program := "ytficlopcolglnaa", sum := "c8749314926333c019d8b824a61c8c184dc5f2c3ab916422d95de6ef1c7219db", func := "loop.example/g03106/laws.FnExactManyAt", spec := "fnExactManyAt", apart := false }
def FnExactManyAtSaid : Prop := fnExactManyAtRow.holds Try.pinned (OpenSpec.ofChange fnExactManyAtSpec)

/-- ITS FALSE NEIGHBOUR: 'it returns false'. Refute it at one input. -/
def fnExactManyAtWrong : ChangeSpec := { name := "fnExactManyAt", fn := fun _ => fun
  | [d1, d2, d3] => { results := [.lit (.bool false)], args := [d1, d2, d3] }
  | _ => none }
def FnExactManyAtWrongFalsely : Prop := fnExactManyAtRow.holds Try.pinned (OpenSpec.ofChange fnExactManyAtWrong)

/-- 'laws.FnExactIsWellFormed': WHATEVER THE INPUT: true; the input reads as it did. -/
def fnExactIsWellFormedSpec : ChangeSpec := { name := "fnExactIsWellFormed", fn := fun _ => fun
  | [d] => { results := [.lit (.bool true)], args := [d] }
  | _ => none }
def fnExactIsWellFormedRow : OpenClaim := { program := "ytficlopcolglnaa", sum := "c8749314926333c019d8b824a61c8c184dc5f2c3ab916422d95de6ef1c7219db", func := "loop.example/g03106/laws.FnExactIsWellFormed", spec := "fnExactIsWellFormed", apart := false }
def FnExactIsWellFormedSaid : Prop := fnExactIsWellFormedRow.holds Try.pinned (OpenSpec.ofChange fnExactIsWellFormedSpec)

/-- ITS FALSE NEIGHBOUR: 'it returns false'. Refute it at one input. -/
def fnExactIsWellFormedWrong : ChangeSpec := { name := "fnExactIsWellFormed", fn := fun _ => fun
  | [d] => { results := [.lit (.bool false)], args := [d] }
  | _ => none }
def FnExactIsWellFormedWrongFalsely : Prop := fnExactIsWellFormedRow.holds Try.pinned (OpenSpec.ofChange fnExactIsWellFormedWrong)

/-- 'laws.FnExactFindFrom': WHATEVER THE INPUT: true; the input reads as it did. -/
def fnExactFindFromSpec : ChangeSpec := { name := "fnExactFindFrom", fn := fun _ => fun
  | [d1, d2, d3] => { results := [.lit (.bool true)], args := [d1, d2, d3] }
  | _ => none }
def fnExactFindFromRow : OpenClaim := { program := "ytficlopcolglnaa", sum := "c8749314926333c019d8b824a61c8c184dc5f2c3ab916422d95de6ef1c7219db", func := "loop.example/g03106/laws.FnExactFindFrom", spec := "fnExactFindFrom", inPlace := ["internal/bytealg.IndexByteString", "internal/bytealg.IndexString"], named := ["internal/bytealg.MaxLen"], apart := false }
def FnExactFindFromSaid : Prop := fnExactFindFromRow.holds Try.pinned (OpenSpec.ofChange fnExactFindFromSpec)

/-- ITS FALSE NEIGHBOUR: 'it returns false'. Refute it at one input. -/
def fnExactFindFromWrong : ChangeSpec := { name := "fnExactFindFrom", fn := fun _ => fun
  | [d1, d2, d3] => { results := [.lit (.bool false)], args := [d1, d2, d3] }
  | _ => none }
def FnExactFindFromWrongFalsely : Prop := fnExactFindFromRow.holds Try.pinned (OpenSpec.ofChange fnExactFindFromWrong)

/-- 'laws.FnRuns': WHATEVER THE INPUT: true; the input reads as it did. -/
def fnRunsSpec : ChangeSpec := { name := "fnRuns", fn := fun _ => fun
  | [d] => { results := [.lit (.bool true)], args := [d] }
  | _ => none }
def fnRunsRow : OpenClaim := { program := "ytficlopcolglnaa", sum := "c8749314926333c019d8b824a61c8c184dc5f2c3ab916422d95de6ef1c7219db", func := "loop.example/g03106/laws.FnRuns", spec := "fnRuns", apart := false }
def FnRunsSaid : Prop := fnRunsRow.holds Try.pinned (OpenSpec.ofChange fnRunsSpec)

/-- ITS FALSE NEIGHBOUR: 'it returns false'. Refute it at one input. -/
def fnRunsWrong : ChangeSpec := { name := "fnRuns", fn := fun _ => fun
  | [d] => { results := [.lit (.bool false)], args := [d] }
  | _ => none }
def FnRunsWrongFalsely : Prop := fnRunsRow.holds Try.pinned (OpenSpec.ofChange fnRunsWrong)

/-- 'laws.FnFound': WHATEVER THE INPUT: true; the input reads as it did. -/
def fnFoundSpec : ChangeSpec := { name := "fnFound", fn := fun _ => fun
  | [d] => { results := [.lit (.bool true)], args := [d] }
  | _ => none }
def fnFoundRow : OpenClaim := { program := "ytficlopcolglnaa", sum := "c8749314926333c019d8b824a61c8c184dc5f2c3ab916422d95de6ef1c7219db", func := "loop.example/g03106/laws.FnFound", spec := "fnFound", inPlace := ["internal/bytealg.IndexByteString", "internal/bytealg.IndexString"], named := ["internal/bytealg.MaxLen"], apart := false }
def FnFoundSaid : Prop := fnFoundRow.holds Try.pinned (OpenSpec.ofChange fnFoundSpec)

/-- ITS FALSE NEIGHBOUR: 'it returns false'. Refute it at one input. -/
def fnFoundWrong : ChangeSpec := { name := "fnFound", fn := fun _ => fun
  | [d] => { results := [.lit (.bool false)], args := [d] }
  | _ => none }
def FnFoundWrongFalsely : Prop := fnFoundRow.holds Try.pinned (OpenSpec.ofChange fnFoundWrong)

/- THE SECOND FORM. 'bulk': how many values and letters a reading holds, each counted each time it is reached (what is shared counts as often as it is met; a slice's spare places count too). A statement '..UptoSaid' is the law's where the arguments, and the package variables that the reading takes, are together of bulk at most 1048576: NARROWER than '..Said'. Prove '..Said' where nothing that the law and all that it calls make is longer than what came in: it says more and counts as full. Else prove '..UptoSaid'. A law counts once. -/
mutual
def uptoBulk {H : Type} : DataW H → Nat
  | .lit (.string bytes) => bytes.length + 1
  | .lit _ => 1
  | .nil => 1
  | .ptr d => uptoBulk d + 1
  | .slice elems spare => uptoBulkAll elems + uptoBulkAll spare + 1
  | .agg parts => uptoBulkAll parts + 1
  | .iface _ d => uptoBulk d + 1
  | .map entries => uptoBulkEntries entries + 1
  | .held _ => 1
def uptoBulkAll {H : Type} : List (DataW H) → Nat
  | [] => 0
  | d :: r => uptoBulk d + uptoBulkAll r
def uptoBulkEntries {H : Type} : List (Lit × DataW H) → Nat
  | [] => 0
  | x :: r => uptoBulkEntry x + uptoBulkEntries r
def uptoBulkEntry {H : Type} : Lit × DataW H → Nat
  | (.string bytes, d) => bytes.length + uptoBulk d + 1
  | (_, d) => uptoBulk d + 1
 end
def uptoSmall : (H : Type) → List (DataW H) → Bool := fun _ ds => decide (uptoBulkAll ds ≤ 1048576)
def OpenSpec.upto (s : _root_.Go.ChangeSpec) : _root_.Go.OpenSpec := { _root_.Go.OpenSpec.ofChange s with cond := some uptoSmall }

/-- 'laws.FnExactMatchAt', WHERE WHAT IT READS IS OF BULK AT MOST 1048576: true; the input reads as it did. -/
def fnExactMatchAtUptoRow : OpenClaim := { program := "ytficlopcolglnaa", sum := "c8749314926333c019d8b824a61c8c184dc5f2c3ab916422d95de6ef1c7219db", func := "loop.example/g03106/laws.FnExactMatchAt", spec := "fnExactMatchAt", apart := false, narrowed := true }
def FnExactMatchAtUptoSaid : Prop := fnExactMatchAtUptoRow.holds Try.pinned (OpenSpec.upto fnExactMatchAtSpec)

/-- 'laws.FnExactIsReference', WHERE WHAT IT READS IS OF BULK AT MOST 1048576: true; the input reads as it did. -/
def fnExactIsReferenceUptoRow : OpenClaim := { program := "ytficlopcolglnaa", sum := "c8749314926333c019d8b824a61c8c184dc5f2c3ab916422d95de6ef1c7219db", func := "loop.example/g03106/laws.FnExactIsReference", spec := "fnExactIsReference", apart := false, narrowed := true }
def FnExactIsReferenceUptoSaid : Prop := fnExactIsReferenceUptoRow.holds Try.pinned (OpenSpec.upto fnExactIsReferenceSpec)

/-- 'laws.FnExactAnyAt', WHERE WHAT IT READS IS OF BULK AT MOST 1048576: true; the input reads as it did. -/
def fnExactAnyAtUptoRow : OpenClaim := { program := "ytficlopcolglnaa", sum := "c8749314926333c019d8b824a61c8c184dc5f2c3ab916422d95de6ef1c7219db", func := "loop.example/g03106/laws.FnExactAnyAt", spec := "fnExactAnyAt", apart := false, narrowed := true }
def FnExactAnyAtUptoSaid : Prop := fnExactAnyAtUptoRow.holds Try.pinned (OpenSpec.upto fnExactAnyAtSpec)

/-- 'laws.FnExactIntegerValue', WHERE WHAT IT READS IS OF BULK AT MOST 1048576: true; the input reads as it did. -/
def fnExactIntegerValueUptoRow : OpenClaim := { program := "ytficlopcolglnaa", sum := "c8749314926333c019d8b824a61c8c184dc5f2c3ab916422d95de6ef1c7219db", func := "loop.example/g03106/laws.FnExactIntegerValue", spec := "fnExactIntegerValue", apart := false, narrowed := true }
def FnExactIntegerValueUptoSaid : Prop := fnExactIntegerValueUptoRow.holds Try.pinned (OpenSpec.upto fnExactIntegerValueSpec)

/-- 'laws.FnExactStringValue', WHERE WHAT IT READS IS OF BULK AT MOST 1048576: true; the input reads as it did. -/
def fnExactStringValueUptoRow : OpenClaim := { program := "ytficlopcolglnaa", sum := "c8749314926333c019d8b824a61c8c184dc5f2c3ab916422d95de6ef1c7219db", func := "loop.example/g03106/laws.FnExactStringValue", spec := "fnExactStringValue", apart := false, narrowed := true }
def FnExactStringValueUptoSaid : Prop := fnExactStringValueUptoRow.holds Try.pinned (OpenSpec.upto fnExactStringValueSpec)

/-- 'laws.FnExactTypeName', WHERE WHAT IT READS IS OF BULK AT MOST 1048576: true; the input reads as it did. -/
def fnExactTypeNameUptoRow : OpenClaim := { program := "ytficlopcolglnaa", sum := "c8749314926333c019d8b824a61c8c184dc5f2c3ab916422d95de6ef1c7219db", func := "loop.example/g03106/laws.FnExactTypeName", spec := "fnExactTypeName", apart := false, narrowed := true }
def FnExactTypeNameUptoSaid : Prop := fnExactTypeNameUptoRow.holds Try.pinned (OpenSpec.upto fnExactTypeNameSpec)

/-- 'laws.FnExactFaultText', WHERE WHAT IT READS IS OF BULK AT MOST 1048576: true; the input reads as it did. -/
def fnExactFaultTextUptoRow : OpenClaim := { program := "ytficlopcolglnaa", sum := "c8749314926333c019d8b824a61c8c184dc5f2c3ab916422d95de6ef1c7219db", func := "loop.example/g03106/laws.FnExactFaultText", spec := "fnExactFaultText", apart := false, narrowed := true }
def FnExactFaultTextUptoSaid : Prop := fnExactFaultTextUptoRow.holds Try.pinned (OpenSpec.upto fnExactFaultTextSpec)

/-- 'laws.FnExactUptoFrom', WHERE WHAT IT READS IS OF BULK AT MOST 1048576: true; the input reads as it did. -/
def fnExactUptoFromUptoRow : OpenClaim := { program := "ytficlopcolglnaa", sum := "c8749314926333c019d8b824a61c8c184dc5f2c3ab916422d95de6ef1c7219db", func := "loop.example/g03106/laws.FnExactUptoFrom", spec := "fnExactUptoFrom", apart := false, narrowed := true }
def FnExactUptoFromUptoSaid : Prop := fnExactUptoFromUptoRow.holds Try.pinned (OpenSpec.upto fnExactUptoFromSpec)

/-- 'laws.FnExactManyAt', WHERE WHAT IT READS IS OF BULK AT MOST 1048576: true; the input reads as it did. -/
def fnExactManyAtUptoRow : OpenClaim := { program := "ytficlopcolglnaa", sum := "c8749314926333c019d8b824a61c8c184dc5f2c3ab916422d95de6ef1c7219db", func := "loop.example/g03106/laws.FnExactManyAt", spec := "fnExactManyAt", apart := false, narrowed := true }
def FnExactManyAtUptoSaid : Prop := fnExactManyAtUptoRow.holds Try.pinned (OpenSpec.upto fnExactManyAtSpec)

/-- 'laws.FnExactIsWellFormed', WHERE WHAT IT READS IS OF BULK AT MOST 1048576: true; the input reads as it did. -/
def fnExactIsWellFormedUptoRow : OpenClaim := { program := "ytficlopcolglnaa", sum := "c8749314926333c019d8b824a61c8c184dc5f2c3ab916422d95de6ef1c7219db", func := "loop.example/g03106/laws.FnExactIsWellFormed", spec := "fnExactIsWellFormed", apart := false, narrowed := true }
def FnExactIsWellFormedUptoSaid : Prop := fnExactIsWellFormedUptoRow.holds Try.pinned (OpenSpec.upto fnExactIsWellFormedSpec)

/-- 'laws.FnExactFindFrom', WHERE WHAT IT READS IS OF BULK AT MOST 1048576: true; the input reads as it did. -/
def fnExactFindFromUptoRow : OpenClaim := { program := "ytficlopcolglnaa", sum := "c8749314926333c019d8b824a61c8c184dc5f2c3ab916422d95de6ef1c7219db", func := "loop.example/g03106/laws.FnExactFindFrom", spec := "fnExactFindFrom", inPlace := ["internal/bytealg.IndexByteString", "internal/bytealg.IndexString"], named := ["internal/bytealg.MaxLen"], apart := false, narrowed := true }
def FnExactFindFromUptoSaid : Prop := fnExactFindFromUptoRow.holds Try.pinned (OpenSpec.upto fnExactFindFromSpec)

/-- 'laws.FnRuns', WHERE WHAT IT READS IS OF BULK AT MOST 1048576: true; the input reads as it did. -/
def fnRunsUptoRow : OpenClaim := { program := "ytficlopcolglnaa", sum := "c8749314926333c019d8b824a61c8c184dc5f2c3ab916422d95de6ef1c7219db", func := "loop.example/g03106/laws.FnRuns", spec := "fnRuns", apart := false, narrowed := true }
def FnRunsUptoSaid : Prop := fnRunsUptoRow.holds Try.pinned (OpenSpec.upto fnRunsSpec)

/-- 'laws.FnFound', WHERE WHAT IT READS IS OF BULK AT MOST 1048576: true; the input reads as it did. -/
def fnFoundUptoRow : OpenClaim := { program := "ytficlopcolglnaa", sum := "c8749314926333c019d8b824a61c8c184dc5f2c3ab916422d95de6ef1c7219db", func := "loop.example/g03106/laws.FnFound", spec := "fnFound", inPlace := ["internal/bytealg.IndexByteString", "internal/bytealg.IndexString"], named := ["internal/bytealg.MaxLen"], apart := false, narrowed := true }
def FnFoundUptoSaid : Prop := fnFoundUptoRow.holds Try.pinned (OpenSpec.upto fnFoundSpec)

end Rows
end Go.Proofs.Ytficlopcolglnaa
